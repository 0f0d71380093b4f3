/- Contracts of the program's and the reference's functions, and the plain laws of what they compute: C1 C2 C9 C10 C11 C12 C13 C3 C4 C5 C6 C7 C8 C14 C15 C16 C17 C18 C19 C20 C21 C22 C23 N1 N2 C24 C25 N3 C26 C27 C28 C29 N4. -/
/- Functions of grammarlabref01: digit, upper, lower, part, named, Name, Feature. -/
import Derived.Test.YtebfihindnhccaaGreatZJ
set_option linter.unusedVariables false
set_option linter.unusedSimpArgs false
namespace Go.Proofs.YtebfihindnhccaaGreat.Fw
open Go
attribute [local irreducible] Ev
attribute [local go_sem] cx_tb entEnv List.toList_toArray evSeq evG evK vcK guardOf guardT guardB_true guardB_false step1 step0 stepQ takesIn namesParts namesOf namesStore frzAll frz frz1 fixN frzEnv frzObjs drpEnv drpObjs AV.frz AV.frzs AV.drp AV.drps AV.names AV.namess aq qmap qPick qAlloc qBox qBuild qBuildSlice qBuildSlice2 qLoad qLoadB qLoadB2 qLoadE qLoadE2 qLoadE3 qFieldI qOff qPart qField qIndexA qIndex qIndexS qNil qBin qUn qConv qMake qMake2 qSlice qExtract qLen qAppend qAppend2 qAppend3 qMin qMax qCall qCall2 qCall3 qBuiltin qCallee aloud lStoreD lStore lStoreB lStoreB2 lStoreE lStoreE3 lStoreE4 lCallee lBuiltin lAppend lAppend2 lAppend3 lAppend4 opv lk constAV optAV sliceQ bin binI binS binB boolT zf1 zfs pfs AV.cells nthOff loadB offB storeB notAg fitsT fitsO Ty.cell1 fieldOk partsT partsAg argsT asT asT1 asTs pairO srT castTo_self getF setF getP setP offP offF fldT rvAV rvObj rvAVs rvObjs resAV RV.flat Ty.flat Ty.size St.add upd del fresh Value.oneCell' refZ Ty.dflt sub_all sub_one sub_take sub_end List.take_succ_cons List.take_zero List.length_cons cast0 castS sub_app take_app sub_app1 take_app1 take_one1 natC zero_le_natC i64_min i64_max u64_min u64_max u8_min u8_max inK_i64 inK_u64 inK_u8 Option.map_some Option.map_none Option.bind_some Option.getD_some Option.getD_none Option.isNone_none Option.isNone_some Bool.and_true Bool.true_and Bool.and_false Bool.false_and Bool.not_true Bool.not_false if_true if_false List.length_cons List.length_nil and_true true_and and_self List.all_cons List.all_nil List.append_nil List.nil_append List.cons_append List.getElem?_cons_zero List.getElem?_cons_succ List.getElem?_nil List.map_cons List.map_nil List.set_cons_zero List.set_cons_succ List.isEmpty_nil List.isEmpty_cons decide_true decide_false beq_self_eq_true bne_self_eq_false Nat.zero_add Nat.add_zero Nat.sub_zero Int.toNat_natCast Int.toNat_zero Int.toNat_one List.take_length List.length_append List.length_singleton true_or or_true or_self false_or or_false Ty.agg.injEq Ty.slice.injEq Ty.prod.injEq Ty.int.injEq Option.some.injEq beq_iff_eq evM evMG evMQ opM isPick viewE viewS viewG opTs opTmp consE guardM guardM1 guardM2 sideM sideM2 pickM pickM2 sufB chEq_nil chEq_nc chEq_cn chEq_cons memB dstOf Op.operands Call.operands List.filterMap_cons List.filterMap_nil List.append_eq Bool.cond_false_right Bool.cond_true_left cond_true cond_false implies_true decide_eq_true_eq beq_true beq_false Bool.or_true Bool.or_false Bool.true_or Bool.false_or Option.isSome_some fieldV namesAg namesAgs capNs qClo qClo2 qMakeMap qMakeMap2 qMakeMap3 qLook qLook2 qLook3 qLook4 keyT keyP eqT inB lMapUp lMapUp2 lMapUp3 namesMap argEnv cm_tb List.drop_zero pruneR prune rem1 afterM addDst fgtEnv AV.fgt AV.fgts Obj.fgt restObjs handed memB calleeOf opvs matchArgs matchArg List.any_cons List.any_nil evF evFO evFQ evFK addQ frOk qs List.flatMap_cons List.flatMap_nil List.cons_append tn appN fgtEN List.take_succ_cons List.drop_succ_cons isYl parEnv rangeSt cY_tb marked_tb renOk renIn matchObjs matchEnv matchE matchAV matchAVs matchF matchO pureT
attribute [local go_sem] ty1 ty2 ty3 ty4 ty5 ty9 ty12 ty21 ty22 ty23 ty24 ty25 ty26 ty27 ty28 ty29 ty30 ty31 ty32 ty34 ty35 ty36 ty37 ty38 ty39 ty40 ty41 ty42 ty43 ty44 ty45 ty46 ty47 ty48 ty49 ty50 ty51 ty52 ty53 ty54 ty55 ty56 ty57 ty58 ty59 ty60 ty61 ty62 ty63 ty64 ty65 ty66 ty67 ty68 ty69 ty70 ty71 ty72 ty73 ty74 ty75 ty76 ty77 ty78 ty79 ty81 ty82 ty83 ty84 ty85 ty86 ty87 ty88 ty89 ty90 ty91 ty92 ty93 ty94 ty95 ty96 ty97 ty98 ty99 ty100 ty102 ty103 ty104 ty105 ty106 ty107 ty108 ty110 ty112 ty113 ty114 ty115 ty116 ty117 ty118 ty119 ty120 ty121 ty122 ty123 ty124 ty125 ty126 ty127 ty128 ty129 ty130 ty131 ty132 ty133 ty134 ty135 ty137 ty138 ty140 ty141 ty142 ty143 ty144 ty145 ty146 ty147 ty148 ty150 ty151 ty152 ty153 ty154 ty155 ty156 ty157 ty158 ty159 ty160 ty161 ty162 ty163 ty165 ty166 ty167 ty168 ty169 ty170 ty171 ty172 ty173 ty174 ty175 ty176 ty177 ty178 ty179 ty180 ty181 ty182 ty183 ty184 ty185 ty187 ty188 ty189 ty190 ty191 ty192 ty193 ty194 ty195 ty196 ty198 ty199 ty200 ty201 ty202 ty203 ty204 ty205 ty206 ty207 ty208 ty209 ty210 ty211 ty212 ty213 ty214 ty216 ty217 ty218 ty219 ty220 ty221 ty222 ty223 ty224 ty225 ty226 ty227 ty228 ty229 ty230 ty231 ty232 ty233 ty234 ty235 ty236 ty237 ty239 ty240 ty241 ty242 ty243 ty244 ty245 ty246 ty247 ty248 ty249 ty250 ty251 ty252 ty253 ty254 ty255 ty256 ty257 ty258 ty259 ty260 ty262 ty263 ty264 ty265 ty266 ty267 ty268 ty269 ty270 ty271 ty272 ty273 ty274 ty275 ty276 ty277 ty283 ty286 ty287
set_option maxRecDepth 100000
set_option maxHeartbeats 4000000
section
def rangeB (a b c : Int) : Bool := decide (a ≤ c) && decide (c ≤ b)
def digitS : Spec := { ins := [.int .u8], pre := fun _ => True, out := fun (c, _) => [.p .bool (rangeB 48 57 c)] }
attribute [local go_sem] digitS
def upperS : Spec := { ins := [.int .u8], pre := fun _ => True, out := fun (c, _) => [.p .bool (rangeB 65 90 c)] }
attribute [local go_sem] upperS
def lowerS : Spec := { ins := [.int .u8], pre := fun _ => True, out := fun (c, _) => [.p .bool (rangeB 97 122 c)] }
attribute [local go_sem] lowerS
theorem digit_ok : FnOk Tryz.prog 225 digitS := by
 refine fn_ok Tryz.func225 (by kernel_rfl) rfl Tryz.ntmps225 (by decide) (by kernel_rfl) (tyTab_ok []) fns_nil ?_
 rintro w0 O0 ⟨c, u⟩ hc - -
 simp only [digitS, entEnv]
 repeat' (first | exact trivial | refine eS rfl ?_ | refine ev_out_inv ?_ | refine rX [0, 2] hc ?_ ?_ | (refine rC (fun hcond => ?_) (fun hcond => ?_) <;> try (cases hcond; done)))
 exact ev_fin hc [.tmp 2] rfl (.inl rfl) (by simp) (by unfold rangeB; first | exact eR | refine eRM ?_)
theorem upper_ok : FnOk Tryz.prog 230 upperS := by
 refine fn_ok Tryz.func230 (by kernel_rfl) rfl Tryz.ntmps230 (by decide) (by kernel_rfl) (tyTab_ok []) fns_nil ?_
 rintro w0 O0 ⟨c, u⟩ hc - -
 simp only [upperS, entEnv]
 repeat' (first | exact trivial | refine eS rfl ?_ | refine ev_out_inv ?_ | refine rX [0, 2] hc ?_ ?_ | (refine rC (fun hcond => ?_) (fun hcond => ?_) <;> try (cases hcond; done)))
 exact ev_fin hc [.tmp 2] rfl (.inl rfl) (by simp) (by unfold rangeB; first | exact eR | refine eRM ?_)
theorem lower_ok : FnOk Tryz.prog 231 lowerS := by
 refine fn_ok Tryz.func231 (by kernel_rfl) rfl Tryz.ntmps231 (by decide) (by kernel_rfl) (tyTab_ok []) fns_nil ?_
 rintro w0 O0 ⟨c, u⟩ hc - -
 simp only [lowerS, entEnv]
 repeat' (first | exact trivial | refine eS rfl ?_ | refine ev_out_inv ?_ | refine rX [0, 2] hc ?_ ?_ | (refine rC (fun hcond => ?_) (fun hcond => ?_) <;> try (cases hcond; done)))
 exact ev_fin hc [.tmp 2] rfl (.inl rfl) (by simp) (by unfold rangeB; first | exact eR | refine eRM ?_)
def partF1 (c : Int) (big : Bool) : Bool := rangeB 48 57 c || c == 45 || big && rangeB 65 90 c || !big && rangeB 97 122 c
def partS : Spec := { ins := [.int .u8, .bool], pre := fun _ => True, out := fun (c, b, _) => [.p .bool (partF1 c b)] }
attribute [local go_sem] partS
theorem part_ok : FnOk Tryz.prog 226 partS := by
 refine fn_ok Tryz.func226 (by kernel_rfl) rfl Tryz.ntmps226 (by decide) (by kernel_rfl) (tyTab_ok [(225, digitS), (230, upperS), (231, lowerS)]) (fns_cons digit_ok (fns_cons upper_ok (fns_cons lower_ok fns_nil))) ?_
 rintro w0 O0 ⟨c, b, u⟩ hc - -
 simp only [partS, entEnv]
 repeat' (first | exact trivial | refine eS rfl ?_ | refine ev_out_inv ?_ | refine rX [0, 1, 4] hc ?_ ?_ | (refine rC (fun hcond => ?_) (fun hcond => ?_) <;> try (cases hcond; done)))
 exact ev_fin hc [.tmp 4] rfl (.inl rfl) (by simp) (by unfold partF1; first | exact eR | refine eRM ?_)
abbrev chr (s : ByteArray) (i : Nat) : Int := ((s.data.getD i 0).toNat : Int)
def namedH (s : ByteArray) : Bool := decide ((s.size : Int) < 1) || decide (32 < (s.size : Int)) || rangeB 48 57 (chr s 0) || chr s 0 == 45
def namedF (s : ByteArray) (big : Bool) : Bool := !namedH s && (List.range s.size).all fun i => partF1 (chr s i) big
def namedS : Spec := { ins := [T9, .bool], pre := fun _ => True, out := fun (s, b, _) => [.p .bool (namedF s b)] }
attribute [local go_sem] namedS
theorem named_ok : FnOk Tryz.prog 216 namedS := by
 refine fn_ok Tryz.func216 (by kernel_rfl) rfl Tryz.ntmps216 (by decide) (by kernel_rfl) (tyTab_ok [(225, digitS), (226, partS)]) (fns_cons digit_ok (fns_cons part_ok fns_nil)) ?_
 rintro w0 O0 ⟨s, b, u⟩ hc - -
 simp only [namedS, entEnv]
 repeat' (first | exact trivial | refine eS rfl ?_ | refine ev_out_inv ?_ | refine rX [0, 1, 4, 5, 23, 27, 35] hc ?_ ?_ | (refine rC (fun hcond => ?_) (fun hcond => ?_) <;> try (cases hcond; done)))
 ·constructor
  ·intro h
   simp only [Bool.not_eq_true', Bool.or_eq_false_iff, decide_eq_false_iff_not] at h
   have : 1 ≤ (s.size : Int) := by omega
   exact this
  ·intro h
   simp only [Bool.not_eq_true', Bool.or_eq_false_iff, decide_eq_false_iff_not] at h
   have : 1 ≤ (s.size : Int) := by omega
   exact this
 ·have h1 : namedH s = true := by
   unfold namedH chr
   simp only [Bool.or_eq_true, decide_eq_true_eq, beq_iff_eq]
   exact hcond
  have h2 : namedF s b = false := by unfold namedF; rw [h1]; rfl
  exact ev_fin hc [.tmp 4] rfl (.inl rfl) (by simp) (by rw [h2]; first | exact eR | refine eRM ?_)
 ·have h1 : namedH s = false := by
   unfold namedH chr
   simp only [Bool.or_eq_false_iff, decide_eq_false_iff_not, beq_eq_false_iff_ne]
   exact ⟨⟨⟨by omega, by omega⟩, hcond.1.2⟩, hcond.2⟩
  have hsz : s.size ≤ 32 := by omega
  refine ev_loop (ι := {k : Nat // k ≤ s.size ∧ ((List.range k).all fun i => partF1 (chr s i) b) = true}) (fun k => ⟨[(0, .p T9 s), (1, .p .bool b), (5, .p (.int .i64) (k.1 : Int))], []⟩) (fun k => s.size - k.1) ⟨0, by simp⟩ (ent_match [] rfl rfl ?_ ?_) (fun k => ?_)
  ·first | exact eN | refine eM ?_
  ·first | exact eN | refine eM ?_
  ·obtain ⟨k, hk, hall⟩ := k
   repeat' (first | exact trivial | refine eS rfl ?_ | refine ev_out_inv ?_ | refine rX [0, 1, 4, 5, 23, 27, 35] hc ?_ ?_ | (refine rC (fun hcond => ?_) (fun hcond => ?_) <;> try (cases hcond; done)))
   ·exact hcond
   ·have hk2 : k < s.size := by omega
    have h2 : namedF s b = false := by
     unfold namedF
     rw [Bool.and_eq_false_iff]
     refine .inr (Bool.eq_false_iff.2 fun h => ?_)
     have := List.all_eq_true.1 h k (List.mem_range.2 hk2)
     rw [show partF1 (chr s k) b = false from hcond] at this
     cases this
    exact ev_fin hc [.tmp 4] rfl (.inl rfl) (by simp) (by rw [h2]; first | exact eR | refine eRM ?_)
   ·omega
   ·have hk2 : k < s.size := by omega
    refine ⟨⟨k + 1, by omega, ?_⟩, by simp only; omega, ent_match [] rfl rfl ?_ ?_⟩
    ·rw [List.range_succ, List.all_append, hall]
     rw [Bool.true_and, List.all_cons, List.all_nil, Bool.and_true]
     exact hcond
    ·first | exact eN | refine eM ?_
    ·first | exact eN | refine eM ?_
   ·have hk2 : k = s.size := by omega
    subst hk2
    have h2 : namedF s b = true := by unfold namedF; rw [h1, hall]; rfl
    exact ev_fin hc [.tmp 4] rfl (.inl rfl) (by simp) (by rw [h2]; first | exact eR | refine eRM ?_)
def nameS : Spec := { ins := [T9], pre := fun _ => True, out := fun (s, _) => [.p .bool (namedF s false)] }
def featureS : Spec := { ins := [T9], pre := fun _ => True, out := fun (s, _) => [.p .bool (namedF s true)] }
theorem name_ok : FnOk Tryz.prog 205 nameS := by
 refine fn_ok Tryz.func205 (by kernel_rfl) rfl Tryz.ntmps205 (by decide) (by kernel_rfl) (tyTab_ok [(216, namedS)]) (fns_cons named_ok fns_nil) ?_
 rintro w0 O0 ⟨s, u⟩ hc - -
 simp only [nameS, entEnv]
 repeat' (first | exact trivial | refine eS rfl ?_ | refine ev_out_inv ?_ | refine rX [0, 2] hc ?_ ?_ | (refine rC (fun hcond => ?_) (fun hcond => ?_) <;> try (cases hcond; done)))
 exact ev_fin hc [.tmp 2] rfl (.inl rfl) (by simp) (by first | exact eR | refine eRM ?_)
theorem feature_ok : FnOk Tryz.prog 204 featureS := by
 refine fn_ok Tryz.func204 (by kernel_rfl) rfl Tryz.ntmps204 (by decide) (by kernel_rfl) (tyTab_ok [(216, namedS)]) (fns_cons named_ok fns_nil) ?_
 rintro w0 O0 ⟨s, u⟩ hc - -
 simp only [featureS, entEnv]
 repeat' (first | exact trivial | refine eS rfl ?_ | refine ev_out_inv ?_ | refine rX [0, 2] hc ?_ ?_ | (refine rC (fun hcond => ?_) (fun hcond => ?_) <;> try (cases hcond; done)))
 exact ev_fin hc [.tmp 2] rfl (.inl rfl) (by simp) (by first | exact eR | refine eRM ?_)
end
/- Functions of grammarlabref03: Among, find, Put. -/
section
theorem any_take2 {α : Type} (l : List α) (d : α) (p : α → Bool) {k : Nat} (h : k < l.length) : (l.take (k + 1)).any p = ((l.take k).any p || p (l.getD k d)) := by
 rw [take_snoc l d h, List.any_append]; simp
theorem any_of_get2 {α : Type} (l : List α) (d : α) (p : α → Bool) {k : Nat} (h : k < l.length) (hp : p (l.getD k d) = true) : l.any p = true :=
 List.any_eq_true.2 ⟨_, mem_of_take_succ l d h, hp⟩
def amongF (l : List ByteArray) (s : ByteArray) : Bool := l.any fun x => strEq x s
def amongS : Spec := { ins := [T151, T9], pre := fun _ => True, out := fun (l, n, _) => [.p .bool (amongF l n)], lend := true }
attribute [local go_sem] amongS
theorem among_ok : FnOk Tryz.prog 183 amongS := by
 refine fn_ok Tryz.func183 (by kernel_rfl) rfl Tryz.ntmps183 (by decide) (by kernel_rfl) (tyTab_ok []) fns_nil ?_
 rintro w0 O0 ⟨l, n, u⟩ hc ⟨⟨hl, -⟩, -⟩ -
 simp only [maxN] at hl
 simp only [amongS, entEnv]
 repeat' (first | exact trivial | refine eS rfl ?_ | refine ev_out_inv ?_ | refine rX [0, 1, 4, 5, 9, 17] hc ?_ ?_ | (refine rC (fun hcond => ?_) (fun hcond => ?_) <;> try (cases hcond; done)))
 refine ev_loop (ι := {k : Nat // k ≤ l.length ∧ (l.take k).any (fun x => strEq x n) = false}) (fun k => ⟨[(0, .p T151 l), (1, .p T9 n), (5, .p (.int .i64) (k.1 : Int))], []⟩) (fun k => l.length - k.1) ⟨0, by simp⟩ (ent_match [] rfl rfl ?_ ?_) (fun k => ?_)
 ·first | exact eN | refine eM ?_
 ·first | exact eN | refine eM ?_
 ·obtain ⟨k, hk, hany⟩ := k
  repeat' (first | exact trivial | refine eS rfl ?_ | refine ev_out_inv ?_ | refine rX [0, 1, 4, 5, 9, 17] hc ?_ ?_ | (refine rC (fun hcond => ?_) (fun hcond => ?_) <;> try (cases hcond; done)))
  ·exact eV
  ·have hkl : k < l.length := by exact eV
   have h1 : amongF l n = true := any_of_get2 l ByteArray.empty _ hkl hcond
   exact ev_fin hc [.tmp 4] rfl (.inl rfl) (by simp) (by rw [h1]; first | exact eR | refine eRM ?_)
  ·exact eV
  ·have hkl : k < l.length := by exact eV
   refine ⟨⟨k + 1, by exact eV, ?_⟩, by simp only; exact eV, ent_match [] rfl rfl ?_ ?_⟩
   ·rw [any_take2 l ByteArray.empty _ hkl, hany]; exact hcond
   ·first | exact eN | refine eM ?_
   ·first | exact eN | refine eM ?_
  ·have hk : l.take k = l := List.take_of_length_le (by exact eV)
   rw [hk] at hany
   have h1 : amongF l n = false := hany
   exact ev_fin hc [.tmp 4] rfl (.inl rfl) (by simp) (by rw [h1]; first | exact eR | refine eRM ?_)
def atF (l : List ByteArray) (s : ByteArray) : Nat := (l.takeWhile fun x => strLt x s).length
theorem tw_len {α : Type} (p : α → Bool) (d : α) : ∀ (l : List α) (k : Nat), k ≤ (l.takeWhile p).length → ((k < l.length ∧ p (l.getD k d) = true) ↔ k + 1 ≤ (l.takeWhile p).length)
 | [], k, h => by simp
 | x :: l, k, h => by
  by_cases hx : p x = true
  ·rw [List.takeWhile_cons, if_pos hx] at h ⊢
   cases k with
   | zero => simp [hx]
   | succ k =>
    have := tw_len p d l k (by simpa using h)
    simpa using this
  ·rw [List.takeWhile_cons, if_neg hx] at h ⊢
   have hk : k = 0 := by simpa using h
   subst hk
   simp [hx]
theorem tw_le {α : Type} (p : α → Bool) (l : List α) : (l.takeWhile p).length ≤ l.length := (List.takeWhile_sublist p).length_le
def putF (l : List ByteArray) (s : ByteArray) : List ByteArray :=
 if (decide (atF l s < l.length) && strEq (l.getD (atF l s) ByteArray.empty) s) = true then l else l.take (atF l s) ++ [s] ++ l.drop (atF l s)
def putS : Spec := { ins := [T151, T9], pre := fun (l, _, _) => List.length l ≤ 100000, out := fun (l, n, _) => [.p T151 (putF l n)] }
attribute [local go_sem] putS
theorem put_ok : FnOk Tryz.prog 174 putS := by
 refine fn_ok Tryz.func174 (by kernel_rfl) rfl Tryz.ntmps174 (by decide) (by kernel_rfl) (tyTab_ok []) fns_nil ?_
 rintro w0 O0 ⟨l, n, u⟩ hc - hl
 have hl : l.length ≤ 100000 := hl
 simp only [putS, entEnv]
 repeat' (first | exact trivial | refine eS rfl ?_ | refine ev_out_inv ?_ | refine rX [0, 1, 4, 5, 6, 18, 32] hc ?_ ?_ | (refine rC (fun hcond => ?_) (fun hcond => ?_) <;> try (cases hcond; done)))
 refine ev_loop (ι := {k : Nat // k ≤ atF l n}) (fun k => ⟨[(0, .p T151 l), (1, .p T9 n), (5, .raw (.slice none 0 0)), (6, .p (.int .i64) (k.1 : Int))], []⟩) (fun k => l.length - k.1) ⟨0, by simp⟩ (ent_match [] rfl rfl ?_ ?_) (fun k => ?_)
 ·first | exact eN | refine eM ?_
 ·first | exact eN | refine eM ?_
 ·obtain ⟨k, hk⟩ := k
  have hle := tw_le (fun x => strLt x n) l
  have htw := tw_len (fun x => strLt x n) ByteArray.empty l k hk
  simp only
  repeat' (first | exact trivial | refine eS rfl ?_ | refine ev_out_inv ?_ | refine rX [0, 1, 4, 5, 6, 18, 32] hc ?_ ?_ | (refine rC (fun hcond => ?_) (fun hcond => ?_) <;> try (cases hcond; done)))
  ·exact fun h => h
  ·have h1 : k < l.length ∧ strLt (l.getD k ByteArray.empty) n = true := ⟨by exact eV, hcond.2⟩
   exact eV
  ·have h1 : k < l.length ∧ strLt (l.getD k ByteArray.empty) n = true := ⟨by exact eV, hcond.2⟩
   refine ⟨⟨k + 1, htw.1 h1⟩, by simp only; omega, ent_match [] rfl rfl ?_ ?_⟩
   ·first | exact eN | refine eM ?_
   ·first | exact eN | refine eM ?_
  ·exact fun h => h
  ·rename_i hend
   have hk2 : k = atF l n := by
    refine Nat.le_antisymm hk (Nat.le_of_not_lt fun h => ?_)
    have := htw.2 h
    rw [hend (Int.ofNat_lt.2 this.1)] at this
    cases this.2
   have h2 : putF l n = l := by
    unfold putF
    rw [← hk2, if_pos]
    rw [Bool.and_eq_true, decide_eq_true_eq]
    exact ⟨Int.ofNat_lt.1 hcond.1, hcond.2⟩
   exact ev_fin hc [.tmp 4] rfl (.inl rfl) (by simp) (by rw [h2]; first | exact eR | refine eRM ?_)
  ·have h3 := List.length_take_le k l
   have h4 : k ≤ l.length := Nat.le_trans hk hle
   simp only [maxN]
   exact ⟨Int.ofNat_le.2 h4, by dsimp only [Ty.den] at *; omega⟩
  ·have h3 := List.length_take_le k l
   have h4 : k ≤ l.length := Nat.le_trans hk hle
   simp only [maxN]
   dsimp only [Ty.den] at *
   omega
  ·have h3 := List.length_take_le k l
   have h4 : k ≤ l.length := Nat.le_trans hk hle
   have h5 : (l.drop k).length ≤ l.length := by rw [List.length_drop]; omega
   simp only [maxN]
   exact ⟨Int.ofNat_le.2 h4, by dsimp only [Ty.den] at *; omega⟩
  ·rename_i hend
   have hk2 : k = atF l n := by
    refine Nat.le_antisymm hk (Nat.le_of_not_lt fun h => ?_)
    have := htw.2 h
    rw [hend (Int.ofNat_lt.2 this.1)] at this
    cases this.2
   have h2 : putF l n = l.take k ++ [n] ++ l.drop k := by
    unfold putF
    rw [← hk2, if_neg]
    rw [Bool.and_eq_true, decide_eq_true_eq]
    intro h
    rw [hcond (Int.ofNat_lt.2 h.1)] at h
    cases h.2
   have h4 : k ≤ l.length := Nat.le_trans hk hle
   have hlen : (l.take k).length + 1 + (l.drop k).length = (l.take k ++ [n] ++ l.drop k).length := by simp only [List.length_append, List.length_singleton]
   rw [hlen, ← h2]
   refine frzE [38] ?_
   exact ev_fin hc [.tmp 4] rfl (.inl rfl) (by simp) (by first | exact eR | refine eRM ?_)
end
/- Functions of grammarlabref02: word, Normal. -/
section
def wordF (b : List Int) (i : Int) : Int := if i < b.length then b.getD i.toNat 0 else 0
def wordS : Spec := { ins := [T142, T3], pre := fun (_, i, _) => (0 : Int) ≤ i, out := fun (b, i, _) => [.p T209 (wordF b i)], lend := true }
attribute [local go_sem] wordS
theorem word_ok : FnOk Tryz.prog 191 wordS := by
 refine fn_ok Tryz.func191 (by kernel_rfl) rfl Tryz.ntmps191 (by decide) (by kernel_rfl) (tyTab_ok []) fns_nil ?_
 rintro w0 O0 ⟨b, i, u⟩ hc - hi
 simp only [wordS, entEnv]
 repeat' (first | exact trivial | refine eS rfl ?_ | refine ev_out_inv ?_ | refine rX [0, 1, 4, 8] hc ?_ ?_ | (refine rC (fun hcond => ?_) (fun hcond => ?_) <;> try (cases hcond; done)))
 ·exact ⟨hi, hcond⟩
 ·have h1 : wordF b i = b.getD i.toNat 0 := by unfold wordF; rw [if_pos hcond]
  exact ev_fin hc [.tmp 4] rfl (.inl rfl) (by simp) (by rw [h1]; first | exact eR | refine eRM ?_)
 ·have h1 : wordF b i = 0 := by unfold wordF; rw [if_neg (Int.not_lt.2 hcond)]
  exact ev_fin hc [.tmp 4] rfl (.inl rfl) (by simp) (by rw [h1]; first | exact eR | refine eRM ?_)
def normN (b : List Int) : Nat → Nat
 | 0 => 0
 | n + 1 => if b.getD n 0 = 0 then normN b n else n + 1
def normalF (b : List Int) : List Int := b.take (normN b b.length)
theorem normN_le (b : List Int) : ∀ n, normN b n ≤ n
 | 0 => Nat.le_refl _
 | n + 1 => by
  unfold normN
  split
  ·exact Nat.le_succ_of_le (normN_le b n)
  ·exact Nat.le_refl _
def normalS : Spec := { ins := [T142], pre := fun (b, _) => List.length b ≤ 100000, out := fun (b, _) => [.p T142 (normalF b)] }
attribute [local go_sem] normalS
theorem normal_ok : FnOk Tryz.prog 176 normalS := by
 refine fn_ok Tryz.func176 (by kernel_rfl) rfl Tryz.ntmps176 (by decide) (by kernel_rfl) (tyTab_ok []) fns_nil ?_
 rintro w0 O0 ⟨b, u⟩ hc - hb
 have hb : b.length ≤ 100000 := hb
 simp only [normalS, entEnv]
 repeat' (first | exact trivial | refine eS rfl ?_ | refine ev_out_inv ?_ | refine rX [0, 2, 3, 15] hc ?_ ?_ | (refine rC (fun hcond => ?_) (fun hcond => ?_) <;> try (cases hcond; done)))
 refine ev_loop (ι := {n : Nat // n ≤ b.length ∧ normN b n = normN b b.length}) (fun n => ⟨[(0, .p T142 b), (3, .p (.int .i64) (n.1 : Int))], []⟩) (fun n => n.1) ⟨b.length, Nat.le_refl _, rfl⟩ (ent_match [] rfl rfl ?_ ?_) (fun n => ?_)
 ·first | exact eN | refine eM ?_
 ·first | exact eN | refine eM ?_
 ·obtain ⟨n, hn, hg⟩ := n
  simp only
  repeat' (first | exact trivial | refine eS rfl ?_ | refine ev_out_inv ?_ | refine rX [0, 2, 3, 15] hc ?_ ?_ | (refine rC (fun hcond => ?_) (fun hcond => ?_) <;> try (cases hcond; done)))
  ·constructor
   ·exact eV
   ·intro h
    refine ⟨?_, ?_⟩ <;> exact eV
  ·exact eV
  ·obtain ⟨h1, h2⟩ := hcond
   obtain ⟨m, rfl⟩ : ∃ m, n = m + 1 := ⟨n - 1, by omega⟩
   have e : (((m + 1 : Nat) : Int) - 1) = (m : Int) := by omega
   rw [e] at h2
   have h2 : b.getD m 0 = 0 := h2
   have hg2 : normN b m = normN b b.length := by
    rw [← hg]
    show _ = if b.getD m 0 = 0 then normN b m else m + 1
    rw [if_pos h2]
   refine ⟨⟨m, by omega, hg2⟩, by simp, ent_match [] rfl rfl ?_ ?_⟩
   ·first | exact eN | refine eM ?_
   ·simp only [e]
    first | exact eN | refine eM ?_
  ·have h3 := List.length_take_le n b
   simp only [maxN]
   exact ⟨Int.ofNat_le.2 hn, by dsimp only [Ty.den] at *; omega⟩
  ·have hend : normN b n = n := by
    cases n with
    | zero => rfl
    | succ m =>
     have e : (((m + 1 : Nat) : Int) - 1) = (m : Int) := by omega
     rw [e] at hcond
     have h2 := hcond (by omega)
     have h2 : ¬ b.getD m 0 = 0 := h2
     show (if b.getD m 0 = 0 then normN b m else m + 1) = m + 1
     rw [if_neg h2]
   have h1 : normalF b = b.take n := by unfold normalF; rw [← hg, hend]
   rw [← h1]
   refine frzE [18] ?_
   exact ev_fin hc [.tmp 2] rfl (.inl rfl) (by simp) (by first | exact eR | refine eRM ?_)
end
/- Functions of grammarlabref02: Has. -/
section
attribute [local go_sem] wordS normalS
def bitF (w : Int) (r : Int) : Bool := bitsV .and .u64 (shrV .u64 w r) 1 == 1
def hasF (b : List Int) (i : Int) : Bool := if (decide (i < 0) || decide ((b.length : Int) ≤ i.tdiv 64)) = true then false else bitF (b.getD (i.tdiv 64).toNat 0) (i.tmod 64)
def hasS : Spec := { ins := [T142, T3], pre := fun _ => True, out := fun (b, i, _) => [.p .bool (hasF b i)], lend := true }
theorem shr_le {w : Int} (h0 : 0 ≤ w) (r : Int) : 0 ≤ shrV .u64 w r ∧ shrV .u64 w r ≤ w := by
 unfold shrV
 have hp : (0 : Int) < 2 ^ (min r.toNat IntKind.u64.bits) := Int.pow_pos (by decide)
 rw [Int.fdiv_eq_ediv_of_nonneg _ (Int.le_of_lt hp)]
 exact ⟨Int.ediv_nonneg h0 (Int.le_of_lt hp), Int.ediv_le_self _ h0⟩
theorem has_ok : FnOk Tryz.prog 187 hasS := by
 refine fn_ok Tryz.func187 (by kernel_rfl) rfl Tryz.ntmps187 (by decide) (by kernel_rfl) (tyTab_ok []) fns_nil ?_
 rintro w0 O0 ⟨b, i, u⟩ hc ⟨⟨hbl, hbe⟩, hik, -⟩ -
 have hik : InK .i64 i := hik
 rw [inK_i64] at hik
 have htd : 0 ≤ i → Int.tdiv i 64 = i / 64 ∧ Int.tmod i 64 = i % 64 := fun h => ⟨Int.tdiv_eq_ediv_of_nonneg h, Int.tmod_eq_emod_of_nonneg h⟩
 simp only [hasS, entEnv]
 repeat' (first | exact trivial | refine eS rfl ?_ | refine ev_out_inv ?_ | refine rX [0, 1, 4, 13] hc ?_ ?_ | (refine rC (fun hcond => ?_) (fun hcond => ?_) <;> try (cases hcond; done)))
 ·intro h
  have h0 : 0 ≤ i := by simpa using h
  obtain ⟨e1, e2⟩ := htd h0
  rw [e1]
  refine ⟨by decide, ?_, ?_⟩ <;> exact eV
 ·have h1 : hasF b i = false := by
   unfold hasF
   rw [if_pos]
   rw [Bool.or_eq_true, decide_eq_true_eq, decide_eq_true_eq]
   exact hcond
  exact ev_fin hc [.tmp 4] rfl (.inl rfl) (by simp) (by rw [h1]; first | exact eR | refine eRM ?_)
 ·obtain ⟨h0, hlt⟩ := hcond
  obtain ⟨e1, e2⟩ := htd h0
  rw [e1] at hlt
  have hw : InK .u64 (b.getD (i / 64).toNat 0) := hbe _ (mem_of_take_succ b 0 (by exact eV))
  rw [inK_u64] at hw
  have hs := shr_le hw.1 (i % 64)
  rw [e1, e2]
  refine ⟨⟨by decide, by exact eV, by exact eV⟩, ⟨by exact eV, by exact eV⟩, ⟨by decide, by exact eV, by exact eV⟩, ⟨by exact eV, by exact eV⟩, by exact eV, hs.1, Int.le_trans hs.2 hw.2⟩
 ·have h1 : hasF b i = bitF (b.getD (i.tdiv 64).toNat 0) (i.tmod 64) := by
   unfold hasF
   rw [if_neg]
   rw [Bool.or_eq_true, decide_eq_true_eq, decide_eq_true_eq]
   rintro (h | h) <;> omega
  exact ev_fin hc [.tmp 4] rfl (.inl rfl) (by simp) (by rw [h1]; unfold bitF; first | exact eR | refine eRM ?_)
end
/- Functions of grammarlabref02: And, Minus. -/
section
attribute [local go_sem] wordS normalS
def zipL (op : BinOp) (a b : List Int) (n : Nat) : List Int := (List.range n).map fun i => bitsV op .u64 (a.getD i 0) (wordF b (i : Int))
theorem zipL_len (op : BinOp) (a b : List Int) (n : Nat) : (zipL op a b n).length = n := by simp [zipL]
theorem zipL_succ (op : BinOp) (a b : List Int) (n : Nat) : zipL op a b (n + 1) = zipL op a b n ++ [bitsV op .u64 (a.getD n 0) (wordF b (n : Int))] := by simp [zipL, List.range_succ]
def andF (a b : List Int) : List Int := normalF (zipL .and a b a.length)
def andS : Spec := { ins := [T142, T142], pre := fun (a, _, _) => List.length a ≤ 100000, out := fun (a, b, _) => [.p T142 (andF a b)] }
theorem and_ok : FnOk Tryz.prog 143 andS := by
 refine fn_ok Tryz.func143 (by kernel_rfl) rfl Tryz.ntmps143 (by decide) (by kernel_rfl) (tyTab_ok [(191, wordS), (176, normalS)]) (fns_cons word_ok (fns_cons normal_ok fns_nil)) ?_
 rintro w0 O0 ⟨a, b, u⟩ hc - ha
 have ha : a.length ≤ 100000 := ha
 simp only [andS, entEnv]
 repeat' (first | exact trivial | refine eS rfl ?_ | refine ev_out_inv ?_ | refine rX [0, 1, 4, 5, 6, 10] hc ?_ ?_ | (refine rC (fun hcond => ?_) (fun hcond => ?_) <;> try (cases hcond; done)))
 refine ev_loop (ι := {n : Nat // n ≤ a.length}) (fun n => ⟨[(0, .p T142 a), (1, .p T142 b), (5, .sr 23 T209 0 n.1), (6, .p (.int .i64) (n.1 : Int))], [(23, .arr 209 T209 (zipL .and a b n.1))]⟩) (fun n => a.length - n.1) ⟨0, Nat.zero_le _⟩ (ent_match [(23, .nil)] rfl rfl ?_ ?_) (fun n => ?_)
 ·first | exact eN | refine eM ?_
  rfl
 ·first | exact eN | refine eM ?_
 ·obtain ⟨n, hn⟩ := n
  have hz := zipL_len .and a b n
  have hs := zipL_succ .and a b n
  simp only
  repeat' (first | exact trivial | refine eS rfl ?_ | refine ev_out_inv ?_ | refine rX [0, 1, 4, 5, 6, 10] hc ?_ ?_ | (refine rC (fun hcond => ?_) (fun hcond => ?_) <;> try (cases hcond; done)))
  ·refine ⟨hcond, ?_⟩
   simp only [maxN]
   dsimp only [Ty.den] at *
   omega
  ·exact eV
  ·have hn2 : n < a.length := by exact eV
   refine ⟨⟨n + 1, by omega⟩, by simp only; omega, ent_match [(23, .nm 23)] rfl rfl ?_ ?_⟩
   ·simp only [hs]
    first | exact eN | refine eM ?_
    rw [List.take_of_length_le (by rw [hz]; exact Nat.le_refl _)]
   ·first | exact eN | refine eM ?_
  ·have hn2 : n = a.length := by exact eV
   subst hn2
   refine frzE [23] ?_
   have ht : (zipL .and a b a.length).take a.length = zipL .and a b a.length := List.take_of_length_le (by rw [zipL_len]; exact Nat.le_refl _)
   repeat' (first | exact trivial | refine eS rfl ?_ | refine ev_out_inv ?_ | refine rX [0, 1, 4, 5, 6, 10] hc ?_ ?_ | (refine rC (fun hcond => ?_) (fun hcond => ?_) <;> try (cases hcond; done)))
   ·rw [ht, zipL_len]; exact ha
   ·rw [ht]
    exact ev_fin hc [.tmp 4] rfl (.inl rfl) (by simp) (by unfold andF; first | exact eR | refine eRM ?_)
def minusF (a b : List Int) : List Int := normalF (zipL .andNot a b a.length)
def minusS : Spec := { ins := [T142, T142], pre := fun (a, _, _) => List.length a ≤ 100000, out := fun (a, b, _) => [.p T142 (minusF a b)] }
attribute [local go_sem] minusS
theorem minus_ok : FnOk Tryz.prog 211 minusS := by
 refine fn_ok Tryz.func211 (by kernel_rfl) rfl Tryz.ntmps211 (by decide) (by kernel_rfl) (tyTab_ok [(191, wordS), (176, normalS)]) (fns_cons word_ok (fns_cons normal_ok fns_nil)) ?_
 rintro w0 O0 ⟨a, b, u⟩ hc - ha
 have ha : a.length ≤ 100000 := ha
 simp only [minusS, entEnv]
 repeat' (first | exact trivial | refine eS rfl ?_ | refine ev_out_inv ?_ | refine rX [0, 1, 4, 5, 6, 10] hc ?_ ?_ | (refine rC (fun hcond => ?_) (fun hcond => ?_) <;> try (cases hcond; done)))
 refine ev_loop (ι := {n : Nat // n ≤ a.length}) (fun n => ⟨[(0, .p T142 a), (1, .p T142 b), (5, .sr 23 T209 0 n.1), (6, .p (.int .i64) (n.1 : Int))], [(23, .arr 209 T209 (zipL .andNot a b n.1))]⟩) (fun n => a.length - n.1) ⟨0, Nat.zero_le _⟩ (ent_match [(23, .nil)] rfl rfl ?_ ?_) (fun n => ?_)
 ·first | exact eN | refine eM ?_
  rfl
 ·first | exact eN | refine eM ?_
 ·obtain ⟨n, hn⟩ := n
  have hz := zipL_len .andNot a b n
  have hs := zipL_succ .andNot a b n
  simp only
  repeat' (first | exact trivial | refine eS rfl ?_ | refine ev_out_inv ?_ | refine rX [0, 1, 4, 5, 6, 10] hc ?_ ?_ | (refine rC (fun hcond => ?_) (fun hcond => ?_) <;> try (cases hcond; done)))
  ·refine ⟨hcond, ?_⟩
   simp only [maxN]
   dsimp only [Ty.den] at *
   omega
  ·exact eV
  ·have hn2 : n < a.length := by exact eV
   refine ⟨⟨n + 1, by omega⟩, by simp only; omega, ent_match [(23, .nm 23)] rfl rfl ?_ ?_⟩
   ·simp only [hs]
    first | exact eN | refine eM ?_
    rw [List.take_of_length_le (by rw [hz]; exact Nat.le_refl _)]
   ·first | exact eN | refine eM ?_
  ·have hn2 : n = a.length := by exact eV
   subst hn2
   refine frzE [23] ?_
   have ht : (zipL .andNot a b a.length).take a.length = zipL .andNot a b a.length := List.take_of_length_le (by rw [zipL_len]; exact Nat.le_refl _)
   repeat' (first | exact trivial | refine eS rfl ?_ | refine ev_out_inv ?_ | refine rX [0, 1, 4, 5, 6, 10] hc ?_ ?_ | (refine rC (fun hcond => ?_) (fun hcond => ?_) <;> try (cases hcond; done)))
   ·rw [ht, zipL_len]; exact ha
   ·rw [ht]
    exact ev_fin hc [.tmp 4] rfl (.inl rfl) (by simp) (by unfold minusF; first | exact eR | refine eRM ?_)
def subsetF (a b : List Int) : Bool := ((minusF a b).length : Int) == 0
def subsetS : Spec := { ins := [T142, T142], pre := fun (a, _, _) => List.length a ≤ 100000, out := fun (a, b, _) => [.p .bool (subsetF a b)], lend := true }
attribute [local go_sem] subsetS
theorem subset_ok : FnOk Tryz.prog 190 subsetS := by
 refine fn_ok Tryz.func190 (by kernel_rfl) rfl Tryz.ntmps190 (by decide) (by kernel_rfl) (tyTab_ok [(211, minusS)]) (fns_cons minus_ok fns_nil) ?_
 rintro w0 O0 ⟨a, b, u⟩ hc - ha
 have ha : a.length ≤ 100000 := ha
 simp only [subsetS, entEnv]
 repeat' (first | exact trivial | refine eS rfl ?_ | refine ev_out_inv ?_ | refine rX [0, 1, 4] hc ?_ ?_ | (refine rC (fun hcond => ?_) (fun hcond => ?_) <;> try (cases hcond; done)))
 ·exact ha
 ·exact ev_fin hc [.tmp 4] rfl (.inl rfl) (by simp) (by unfold subsetF; first | exact eR | refine eRM ?_)
def equalBF (a b : List Int) : Bool := subsetF a b && subsetF b a
def equalBS : Spec := { ins := [T142, T142], pre := fun (a, b, _) => List.length a ≤ 100000 ∧ List.length b ≤ 100000, out := fun (a, b, _) => [.p .bool (equalBF a b)], lend := true }
theorem equalB_ok : FnOk Tryz.prog 186 equalBS := by
 refine fn_ok Tryz.func186 (by kernel_rfl) rfl Tryz.ntmps186 (by decide) (by kernel_rfl) (tyTab_ok [(190, subsetS)]) (fns_cons subset_ok fns_nil) ?_
 rintro w0 O0 ⟨a, b, u⟩ hc - ⟨ha, hb⟩
 simp only [equalBS, entEnv]
 repeat' (first | exact trivial | refine eS rfl ?_ | refine ev_out_inv ?_ | refine rX [0, 1, 4] hc ?_ ?_ | (refine rC (fun hcond => ?_) (fun hcond => ?_) <;> try (cases hcond; done)))
 ·exact ⟨ha, fun _ => hb⟩
 ·exact ev_fin hc [.tmp 4] rfl (.inl rfl) (by simp) (by unfold equalBF; first | exact eR | refine eRM ?_)
end
/- Functions of grammarlabref02: Same, List. -/
section
attribute [local go_sem] hasS
def sameF (a b : List Int) : Bool := decide (a = b)
def sameS : Spec := { ins := [T142, T142], pre := fun _ => True, out := fun (a, b, _) => [.p .bool (sameF a b)], lend := true }
theorem same_ok : FnOk Tryz.prog 177 sameS := by
 refine fn_ok Tryz.func177 (by kernel_rfl) rfl Tryz.ntmps177 (by decide) (by kernel_rfl) (tyTab_ok []) fns_nil ?_
 rintro w0 O0 ⟨a, b, u⟩ hc ⟨⟨ha, -⟩, -⟩ -
 simp only [maxN] at ha
 simp only [sameS, entEnv]
 repeat' (first | exact trivial | refine eS rfl ?_ | refine ev_out_inv ?_ | refine rX [0, 1, 4, 5, 10, 14, 25] hc ?_ ?_ | (refine rC (fun hcond => ?_) (fun hcond => ?_) <;> try (cases hcond; done)))
 ·have h1 : sameF a b = false := by
   unfold sameF
   rw [decide_eq_false_iff_not]
   rintro rfl
   exact hcond rfl
  exact ev_fin hc [.tmp 4] rfl (.inl rfl) (by simp) (by rw [h1]; first | exact eR | refine eRM ?_)
 ·have hab : a.length = b.length := by
   have : (a.length : Int) = (b.length : Int) := by simpa using hcond
   exact Int.ofNat_inj.1 this
  refine ev_loop (ι := {k : Nat // k ≤ a.length ∧ a.take k = b.take k}) (fun k => ⟨[(0, .p T142 a), (1, .p T142 b), (5, .p (.int .i64) (k.1 : Int))], []⟩) (fun k => a.length - k.1) ⟨0, Nat.zero_le _, rfl⟩ (ent_match [] rfl rfl ?_ ?_) (fun k => ?_)
  ·first | exact eN | refine eM ?_
  ·first | exact eN | refine eM ?_
  ·obtain ⟨k, hk, hf⟩ := k
   simp only
   repeat' (first | exact trivial | refine eS rfl ?_ | refine ev_out_inv ?_ | refine rX [0, 1, 4, 5, 10, 14, 25] hc ?_ ?_ | (refine rC (fun hcond => ?_) (fun hcond => ?_) <;> try (cases hcond; done)))
   ·exact ⟨hcond, by rw [← hab]; exact hcond⟩
   ·have hk2 : k < a.length := by exact eV
    have h1 : sameF a b = false := by
     unfold sameF
     rw [decide_eq_false_iff_not]
     rintro rfl
     exact hcond rfl
    exact ev_fin hc [.tmp 4] rfl (.inl rfl) (by simp) (by rw [h1]; first | exact eR | refine eRM ?_)
   ·exact eV
   ·have hk2 : k < a.length := by exact eV
    have he : a.getD k 0 = b.getD k 0 := by simpa using hcond
    refine ⟨⟨k + 1, by omega, ?_⟩, by simp only; omega, ent_match [] rfl rfl ?_ ?_⟩
    ·rw [take_snoc a 0 hk2, take_snoc b 0 (by omega), hf]
     rw [show a.getD k 0 = b.getD k 0 from he]
    ·first | exact eN | refine eM ?_
    ·first | exact eN | refine eM ?_
   ·have hk2 : k = a.length := by exact eV
    subst hk2
    rw [List.take_length, hab, List.take_length] at hf
    have h1 : sameF a b = true := by unfold sameF; rw [hf]; simp
    exact ev_fin hc [.tmp 4] rfl (.inl rfl) (by simp) (by rw [h1]; first | exact eR | refine eRM ?_)
end
/- Functions of grammarlabref02: List, Count. -/
section
attribute [local go_sem] hasS
def listG (b : List Int) (n : Nat) : List Int := ((List.range n).filter fun (i : Nat) => hasF b (i : Int)).map fun (i : Nat) => (i : Int)
def listF (b : List Int) : List Int := listG b (64 * b.length)
theorem listG_succ (b : List Int) (n : Nat) : listG b (n + 1) = listG b n ++ if hasF b (n : Int) = true then [(n : Int)] else [] := by
 unfold listG
 rw [List.range_succ, List.filter_append, List.map_append]
 congr 1
 rw [List.filter_cons, List.filter_nil]
 split <;> rfl
theorem listG_len (b : List Int) (n : Nat) : (listG b n).length ≤ n := by
 unfold listG
 rw [List.length_map]
 exact Nat.le_trans (List.length_filter_le _ _) (by simp)
def listS : Spec := { ins := [T142], pre := fun (b, _) => List.length b ≤ 100000, out := fun (b, _) => [.p T40 (listF b)] }
attribute [local go_sem] listS
theorem list_ok : FnOk Tryz.prog 210 listS := by
 refine fn_ok Tryz.func210 (by kernel_rfl) rfl Tryz.ntmps210 (by decide) (by kernel_rfl) (tyTab_ok [(187, hasS)]) (fns_cons has_ok fns_nil) ?_
 rintro w0 O0 ⟨b, u⟩ hc - hb
 have hb : b.length ≤ 100000 := hb
 simp only [listS, entEnv]
 repeat' (first | exact trivial | refine eS rfl ?_ | refine ev_out_inv ?_ | refine rX [0, 2, 3, 4, 9, 14] hc ?_ ?_ | (refine rC (fun hcond => ?_) (fun hcond => ?_) <;> try (cases hcond; done)))
 refine ev_loop (ι := {n : Nat // n ≤ 64 * b.length}) (fun n => ⟨[(0, .p T142 b), (3, .sr 18 T3 0 (listG b n.1).length), (4, .p (.int .i64) (n.1 : Int))], [(18, .arr 3 T3 (listG b n.1))]⟩) (fun n => 64 * b.length - n.1) ⟨0, Nat.zero_le _⟩ (ent_match [(18, .nil)] rfl rfl ?_ ?_) (fun n => ?_)
 ·first | exact eN | refine eM ?_
  rfl
 ·first | exact eN | refine eM ?_
  rfl
 ·obtain ⟨n, hn⟩ := n
  have hz := listG_len b n
  have hs := listG_succ b n
  simp only
  repeat' (first | exact trivial | refine eS rfl ?_ | refine ev_out_inv ?_ | refine rX [0, 2, 3, 4, 9, 14] hc ?_ ?_ | (refine rC (fun hcond => ?_) (fun hcond => ?_) <;> try (cases hcond; done)))
  ·exact eV
  ·rw [hcond, if_pos rfl] at hs
   simp only [maxN]
   dsimp only [Ty.den] at *
   omega
  ·exact eV
  ·have hn2 : n < 64 * b.length := by exact eV
   rw [hcond, if_pos rfl] at hs
   refine ⟨⟨n + 1, by omega⟩, by simp only; omega, ent_match [(18, .nm 18)] rfl rfl ?_ ?_⟩
   ·simp only [hs]
    first | exact eN | refine eM ?_
   ·simp only [hs]
    first | exact eN | refine eM ?_
  ·exact eV
  ·have hn2 : n < 64 * b.length := by exact eV
   rw [hcond, if_neg (by simp), List.append_nil] at hs
   refine ⟨⟨n + 1, by omega⟩, by simp only; omega, ent_match [(18, .nm 18)] rfl rfl ?_ ?_⟩
   ·simp only [hs]
    first | exact eN | refine eM ?_
   ·simp only [hs]
    first | exact eN | refine eM ?_
  ·have hn2 : n = 64 * b.length := by exact eV
   subst hn2
   refine frzE [18] ?_
   exact ev_fin hc [.tmp 2] rfl (.inl rfl) (by simp) (by unfold listF; first | exact eR | refine eRM ?_)
def countS : Spec := { ins := [T142], pre := fun (b, _) => List.length b ≤ 100000, out := fun (b, _) => [.p T3 ((listF b).length : Int)], lend := true }
theorem count_ok : FnOk Tryz.prog 189 countS := by
 refine fn_ok Tryz.func189 (by kernel_rfl) rfl Tryz.ntmps189 (by decide) (by kernel_rfl) (tyTab_ok [(210, listS)]) (fns_cons list_ok fns_nil) ?_
 rintro w0 O0 ⟨b, u⟩ hc - hb
 simp only [countS, entEnv]
 repeat' (first | exact trivial | refine eS rfl ?_ | refine ev_out_inv ?_ | refine rX [0, 2] hc ?_ ?_ | (refine rC (fun hcond => ?_) (fun hcond => ?_) <;> try (cases hcond; done)))
 ·exact hb
 ·exact ev_fin hc [.tmp 2] rfl (.inl rfl) (by simp) (by first | exact eR | refine eRM ?_)
end
/- Functions of grammarlabref03: find, sizes, ready. -/
section
attribute [local go_sem] amongS nameS
abbrev DeclD := ByteArray × List ByteArray × List (ByteArray × ByteArray)
abbrev d0 : DeclD := (ByteArray.empty, [], [])
def dfindG (s : ByteArray) : Nat → List DeclD → Int
 | _, [] => -1
 | k, x :: l => if strEq x.1 s = true then (k : Int) else dfindG s (k + 1) l
def dfindF (l : List DeclD) (s : ByteArray) : Int := dfindG s 0 l
theorem dfindG_step (s : ByteArray) (l : List DeclD) {k : Nat} (h : k < l.length) : dfindG s k (l.drop k) = if strEq (l.getD k d0).1 s = true then (k : Int) else dfindG s (k + 1) (l.drop (k + 1)) := by
 rw [List.drop_eq_getElem_cons h]
 have e : l.getD k d0 = l[k] := by simp [List.getD_eq_getElem?_getD, h]
 rw [e]
 rfl
def dfindS : Spec := { ins := [T22, T9], pre := fun _ => True, out := fun (l, s, _) => [.p T3 (dfindF l s)] }
attribute [local go_sem] dfindS
theorem dfind_ok : FnOk Tryz.prog 206 dfindS := by
 refine fn_ok Tryz.func206 (by kernel_rfl) rfl Tryz.ntmps206 (by decide) (by kernel_rfl) (tyTab_ok []) fns_nil ?_
 rintro w0 O0 ⟨l, s, u⟩ hc ⟨⟨hl, -⟩, -⟩ -
 simp only [maxN] at hl
 simp only [dfindS, entEnv]
 repeat' (first | exact trivial | refine eS rfl ?_ | refine ev_out_inv ?_ | refine rX [0, 1, 4, 5, 9, 18] hc ?_ ?_ | (refine rC (fun hcond => ?_) (fun hcond => ?_) <;> try (cases hcond; done)))
 refine ev_loop (ι := {k : Nat // k ≤ l.length ∧ dfindG s k (l.drop k) = dfindF l s}) (fun k => ⟨[(0, .p T22 l), (1, .p T9 s), (5, .p (.int .i64) (k.1 : Int))], []⟩) (fun k => l.length - k.1) ⟨0, Nat.zero_le _, rfl⟩ (ent_match [] rfl rfl ?_ ?_) (fun k => ?_)
 ·first | exact eN | refine eM ?_
 ·first | exact eN | refine eM ?_
 ·obtain ⟨k, hk, hf⟩ := k
  simp only
  repeat' (first | exact trivial | refine eS rfl ?_ | refine ev_out_inv ?_ | refine rX [0, 1, 4, 5, 9, 18] hc ?_ ?_ | (refine rC (fun hcond => ?_) (fun hcond => ?_) <;> try (cases hcond; done)))
  ·exact hcond
  ·have hk2 : k < l.length := by exact eV
   rw [dfindG_step s l hk2, if_pos hcond] at hf
   exact ev_fin hc [.tmp 4] rfl (.inl rfl) (by simp) (by rw [← hf]; first | exact eR | refine eRM ?_)
  ·exact eV
  ·have hk2 : k < l.length := by exact eV
   rw [dfindG_step s l hk2, if_neg (by rw [hcond]; simp)] at hf
   refine ⟨⟨k + 1, by omega, hf⟩, by simp only; omega, ent_match [] rfl rfl ?_ ?_⟩
   ·first | exact eN | refine eM ?_
   ·first | exact eN | refine eM ?_
  ·have hk2 : l.drop k = [] := List.drop_eq_nil_of_le (by exact eV)
   rw [hk2] at hf
   exact ev_fin hc [.tmp 4] rfl (.inl rfl) (by simp) (by rw [← hf]; first | exact eR | refine eRM ?_; rfl)
def sizesG : List DeclD → Int
 | [] => 0
 | x :: l => if 256 < x.2.1.length ∨ 256 < x.2.2.length then 7 else sizesG l
def sizesF (l : List DeclD) : Int := if 256 < l.length then 7 else sizesG l
theorem sizesG_step (l : List DeclD) {k : Nat} (h : k < l.length) : sizesG (l.drop k) = if 256 < (l.getD k d0).2.1.length ∨ 256 < (l.getD k d0).2.2.length then 7 else sizesG (l.drop (k + 1)) := by
 rw [List.drop_eq_getElem_cons h]
 have e : l.getD k d0 = l[k] := by simp [List.getD_eq_getElem?_getD, h]
 rw [e]
 rfl
def sizesS : Spec := { ins := [T22], pre := fun _ => True, out := fun (l, _) => [.p T79 (sizesF l)] }
attribute [local go_sem] sizesS
theorem sizes_ok : FnOk Tryz.prog 178 sizesS := by
 refine fn_ok Tryz.func178 (by kernel_rfl) rfl Tryz.ntmps178 (by decide) (by kernel_rfl) (tyTab_ok []) fns_nil ?_
 rintro w0 O0 ⟨l, u⟩ hc ⟨⟨hl, -⟩, -⟩ -
 simp only [maxN] at hl
 simp only [sizesS, entEnv]
 repeat' (first | exact trivial | refine eS rfl ?_ | refine ev_out_inv ?_ | refine rX [0, 2, 3, 6, 10, 28] hc ?_ ?_ | (refine rC (fun hcond => ?_) (fun hcond => ?_) <;> try (cases hcond; done)))
 ·have h1 : sizesF l = 7 := by unfold sizesF; rw [if_pos (by exact eV)]
  exact ev_fin hc [.tmp 2] rfl (.inl rfl) (by simp) (by rw [h1]; first | exact eR | refine eRM ?_)
 ·have h1 : sizesF l = sizesG l := by unfold sizesF; rw [if_neg (by exact eV)]
  refine ev_loop (ι := {k : Nat // k ≤ l.length ∧ sizesG (l.drop k) = sizesF l}) (fun k => ⟨[(0, .p T22 l), (3, .p (.int .i64) (k.1 : Int))], []⟩) (fun k => l.length - k.1) ⟨0, Nat.zero_le _, h1.symm⟩ (ent_match [] rfl rfl ?_ ?_) (fun k => ?_)
  ·first | exact eN | refine eM ?_
  ·first | exact eN | refine eM ?_
  ·obtain ⟨k, hk, hf⟩ := k
   simp only
   repeat' (first | exact trivial | refine eS rfl ?_ | refine ev_out_inv ?_ | refine rX [0, 2, 3, 6, 10, 28] hc ?_ ?_ | (refine rC (fun hcond => ?_) (fun hcond => ?_) <;> try (cases hcond; done)))
   ·exact ⟨hcond, fun _ => hcond⟩
   ·have hk2 : k < l.length := by exact eV
    rw [sizesG_step l hk2, if_pos (by
     rcases hcond with h | h
     ·exact .inl (Int.ofNat_lt.1 h)
     ·exact .inr (Int.ofNat_lt.1 h))] at hf
    exact ev_fin hc [.tmp 2] rfl (.inl rfl) (by simp) (by rw [← hf]; first | exact eR | refine eRM ?_)
   ·exact eV
   ·have hk2 : k < l.length := by exact eV
    rw [sizesG_step l hk2, if_neg (by
     rintro (h | h)
     ·have := Int.ofNat_le.1 hcond.1; exact absurd h (Nat.not_lt.2 this)
     ·have := Int.ofNat_le.1 hcond.2; exact absurd h (Nat.not_lt.2 this))] at hf
    refine ⟨⟨k + 1, by omega, hf⟩, by simp only; omega, ent_match [] rfl rfl ?_ ?_⟩
    ·first | exact eN | refine eM ?_
    ·first | exact eN | refine eM ?_
   ·have hk2 : l.drop k = [] := List.drop_eq_nil_of_le (by exact eV)
    rw [hk2] at hf
    exact ev_fin hc [.tmp 2] rfl (.inl rfl) (by simp) (by rw [← hf]; first | exact eR | refine eRM ?_; rfl)
theorem all_take1 {α : Type} (l : List α) (d : α) (p : α → Bool) {k : Nat} (h : k < l.length) : (l.take (k + 1)).all p = ((l.take k).all p && p (l.getD k d)) := by
 rw [take_snoc l d h, List.all_append]; simp
def readyF (x : DeclD) (done : List ByteArray) : Bool := x.2.1.all fun s => amongF done s
def readyS : Spec := { ins := [T154, T151], pre := fun _ => True, out := fun (x, l, _) => [.p .bool (readyF x l)], lend := true }
attribute [local go_sem] readyS
theorem ready_ok : FnOk Tryz.prog 207 readyS := by
 refine fn_ok Tryz.func207 (by kernel_rfl) rfl Tryz.ntmps207 (by decide) (by kernel_rfl) (tyTab_ok [(183, amongS)]) (fns_cons among_ok fns_nil) ?_
 rintro w0 O0 ⟨⟨nm, sup, fe⟩, l, u⟩ hc ⟨⟨-, ⟨hsz, -⟩, -⟩, -⟩ -
 simp only [maxN] at hsz
 simp only [readyS, entEnv]
 repeat' (first | exact trivial | refine eS rfl ?_ | refine ev_out_inv ?_ | refine rX [0, 1, 2, 4, 5, 10, 20] hc ?_ ?_ | (refine rC (fun hcond => ?_) (fun hcond => ?_) <;> try (cases hcond; done)))
 refine ev_loop (ι := {k : Nat // k ≤ sup.length ∧ (sup.take k).all (fun s => amongF l s) = true}) (fun k => ⟨[(1, .p T151 l), (2, .bp 2 [] 0), (5, .p (.int .i64) (k.1 : Int))], [(2, .box 154 true [.p T9 nm, .p T151 sup, .p T152 fe])]⟩) (fun k => sup.length - k.1) ⟨0, by simp⟩ (ent_match [(2, .nm 2)] rfl rfl ?_ ?_) (fun k => ?_)
 ·first | exact eN | refine eM ?_
 ·first | exact eN | refine eM ?_
 ·obtain ⟨k, hk, hf⟩ := k
  simp only
  repeat' (first | exact trivial | refine eS rfl ?_ | refine ev_out_inv ?_ | refine rX [0, 1, 2, 4, 5, 10, 20] hc ?_ ?_ | (refine rC (fun hcond => ?_) (fun hcond => ?_) <;> try (cases hcond; done)))
  ·exact hcond
  ·have hk2 : k < sup.length := by exact eV
   have h1 : readyF (nm, sup, fe) l = false := by
    unfold readyF
    refine Bool.eq_false_iff.2 fun h => ?_
    have := List.all_eq_true.1 h _ (mem_of_take_succ sup ByteArray.empty hk2)
    rw [hcond] at this
    cases this
   exact ev_fin hc [.tmp 4] rfl (.inl rfl) (by simp) (by rw [h1]; first | exact eR | refine eRM ?_)
  ·have := hsz
   exact eV
  ·have hk2 : k < sup.length := by exact eV
   refine ⟨⟨k + 1, by omega, ?_⟩, by simp only; omega, ent_match [(2, .nm 2)] rfl rfl ?_ ?_⟩
   ·rw [all_take1 sup ByteArray.empty _ hk2, hf]
    exact hcond
   ·first | exact eN | refine eM ?_
   ·first | exact eN | refine eM ?_
  ·have hk2 : sup.take k = sup := List.take_of_length_le (by exact eV)
   rw [hk2] at hf
   have h1 : readyF (nm, sup, fe) l = true := hf
   exact ev_fin hc [.tmp 4] rfl (.inl rfl) (by simp) (by rw [h1]; first | exact eR | refine eRM ?_)
def namesG (d : List DeclD) : Nat → List DeclD → Int
 | _, [] => 0
 | k, x :: l => if namedF x.1 false = false then 1 else if dfindF d x.1 < (k : Int) then 4 else namesG d (k + 1) l
def namesF (d : List DeclD) : Int := namesG d 0 d
theorem namesG_step (d l : List DeclD) {k : Nat} (h : k < l.length) : namesG d k (l.drop k) = if namedF (l.getD k d0).1 false = false then 1 else if dfindF d (l.getD k d0).1 < (k : Int) then 4 else namesG d (k + 1) (l.drop (k + 1)) := by
 rw [List.drop_eq_getElem_cons h]
 have e : l.getD k d0 = l[k] := by simp [List.getD_eq_getElem?_getD, h]
 rw [e]
 rfl
def namesS : Spec := { ins := [T22], pre := fun _ => True, out := fun (l, _) => [.p T79 (namesF l)] }
attribute [local go_sem] namesS
theorem names_ok : FnOk Tryz.prog 179 namesS := by
 refine fn_ok Tryz.func179 (by kernel_rfl) rfl Tryz.ntmps179 (by decide) (by kernel_rfl) (tyTab_ok [(205, nameS), (206, dfindS)]) (fns_cons name_ok (fns_cons dfind_ok fns_nil)) ?_
 rintro w0 O0 ⟨l, u⟩ hc ⟨⟨hl, -⟩, -⟩ -
 simp only [maxN] at hl
 simp only [namesS, entEnv]
 repeat' (first | exact trivial | refine eS rfl ?_ | refine ev_out_inv ?_ | refine rX [0, 2, 3, 7, 16, 25] hc ?_ ?_ | (refine rC (fun hcond => ?_) (fun hcond => ?_) <;> try (cases hcond; done)))
 refine ev_loop (ι := {k : Nat // k ≤ l.length ∧ namesG l k (l.drop k) = namesF l}) (fun k => ⟨[(0, .p T22 l), (3, .p (.int .i64) (k.1 : Int))], []⟩) (fun k => l.length - k.1) ⟨0, Nat.zero_le _, rfl⟩ (ent_match [] rfl rfl ?_ ?_) (fun k => ?_)
 ·first | exact eN | refine eM ?_
 ·first | exact eN | refine eM ?_
 ·obtain ⟨k, hk, hf⟩ := k
  simp only
  repeat' (first | exact trivial | refine eS rfl ?_ | refine ev_out_inv ?_ | refine rX [0, 2, 3, 7, 16, 25] hc ?_ ?_ | (refine rC (fun hcond => ?_) (fun hcond => ?_) <;> try (cases hcond; done)))
  ·exact hcond
  ·have hk2 : k < l.length := by exact eV
   rw [namesG_step l l hk2, if_pos hcond] at hf
   exact ev_fin hc [.tmp 2] rfl (.inl rfl) (by simp) (by rw [← hf]; first | exact eR | refine eRM ?_)
  ·assumption
  ·rename_i hnm
   have hk2 : k < l.length := by exact eV
   rw [namesG_step l l hk2, if_neg (by rw [hnm]; simp), if_pos hcond] at hf
   exact ev_fin hc [.tmp 2] rfl (.inl rfl) (by simp) (by rw [← hf]; first | exact eR | refine eRM ?_)
  ·exact eV
  ·rename_i hnm
   have hk2 : k < l.length := by exact eV
   rw [namesG_step l l hk2, if_neg (by rw [hnm]; simp), if_neg (Int.not_lt.2 hcond)] at hf
   refine ⟨⟨k + 1, by omega, hf⟩, by simp only; omega, ent_match [] rfl rfl ?_ ?_⟩
   ·first | exact eN | refine eM ?_
   ·first | exact eN | refine eM ?_
  ·have hk2 : l.drop k = [] := List.drop_eq_nil_of_le (by exact eV)
   rw [hk2] at hf
   exact ev_fin hc [.tmp 2] rfl (.inl rfl) (by simp) (by rw [← hf]; first | exact eR | refine eRM ?_; rfl)
def supG (d : List DeclD) (l : List ByteArray) : Nat → List ByteArray → Int
 | _, [] => 0
 | k, x :: r => if dfindF d x < 0 then 5 else if amongF (l.take k) x = true then 4 else supG d l (k + 1) r
def supersG (d : List DeclD) : List DeclD → Int
 | [] => 0
 | x :: l => if supG d x.2.1 0 x.2.1 ≠ 0 then supG d x.2.1 0 x.2.1 else supersG d l
def supersF (d : List DeclD) : Int := supersG d d
theorem supG_step (d : List DeclD) (l : List ByteArray) {k : Nat} (h : k < l.length) : supG d l k (l.drop k) = if dfindF d (l.getD k ByteArray.empty) < 0 then 5 else if amongF (l.take k) (l.getD k ByteArray.empty) = true then 4 else supG d l (k + 1) (l.drop (k + 1)) := by
 rw [List.drop_eq_getElem_cons h]
 have e : l.getD k ByteArray.empty = l[k] := by simp [List.getD_eq_getElem?_getD, h]
 rw [e]
 rfl
theorem supersG_step (d l : List DeclD) {k : Nat} (h : k < l.length) : supersG d (l.drop k) = if supG d (l.getD k d0).2.1 0 (l.getD k d0).2.1 ≠ 0 then supG d (l.getD k d0).2.1 0 (l.getD k d0).2.1 else supersG d (l.drop (k + 1)) := by
 rw [List.drop_eq_getElem_cons h]
 have e : l.getD k d0 = l[k] := by simp [List.getD_eq_getElem?_getD, h]
 rw [e]
 rfl
def supersS : Spec := { ins := [T22], pre := fun _ => True, out := fun (l, _) => [.p T79 (supersF l)] }
attribute [local go_sem] supersS
theorem supers_ok : FnOk Tryz.prog 180 supersS := by
 refine fn_ok Tryz.func180 (by kernel_rfl) rfl Tryz.ntmps180 (by decide) (by kernel_rfl) (tyTab_ok [(183, amongS), (206, dfindS)]) (fns_cons among_ok (fns_cons dfind_ok fns_nil)) ?_
 rintro w0 O0 ⟨l, u⟩ hc ⟨⟨hl, hall⟩, -⟩ -
 simp only [maxN] at hl
 simp only [supersS, entEnv]
 repeat' (first | exact trivial | refine eS rfl ?_ | refine ev_out_inv ?_ | refine rX [0, 2, 3, 4, 5, 9, 20, 29, 37] hc ?_ ?_ | (refine rC (fun hcond => ?_) (fun hcond => ?_) <;> try (cases hcond; done)))
 refine ev_loop (ι := {i : Nat // i ≤ l.length ∧ supersG l (l.drop i) = supersF l}) (fun i => ⟨[(0, .p T22 l), (3, .p (.int .i64) (i.1 : Int))], []⟩) (fun i => l.length - i.1) ⟨0, Nat.zero_le _, rfl⟩ (ent_match [] rfl rfl ?_ ?_) (fun i => ?_)
 ·first | exact eN | refine eM ?_
 ·first | exact eN | refine eM ?_
 ·obtain ⟨i, hi, hf⟩ := i
  simp only
  repeat' (first | exact trivial | refine eS rfl ?_ | refine ev_out_inv ?_ | refine rX [0, 2, 3, 4, 5, 9, 20, 29, 37] hc ?_ ?_ | (refine rC (fun hcond => ?_) (fun hcond => ?_) <;> try (cases hcond; done)))
  ·exact hcond
  ·have hi2 : i < l.length := by exact eV
   have hm := hall _ (mem_of_take_succ l d0 hi2)
   have hml : (l.getD i d0).2.1.length ≤ maxN := hm.2.1.1
   simp only [maxN] at hml
   rw [supersG_step l l hi2] at hf
   generalize (l.getD i d0).2.1 = sup at *
   refine ev_loop (ι := {k : Nat // k ≤ sup.length ∧ supG l sup k (sup.drop k) = supG l sup 0 sup}) (fun k => ⟨[(0, .p T22 l), (3, .p (.int .i64) (i : Int)), (4, .p T151 sup), (5, .p (.int .i64) (k.1 : Int))], []⟩) (fun k => sup.length - k.1) ⟨0, Nat.zero_le _, rfl⟩ (ent_match [] rfl rfl ?_ ?_) (fun k => ?_)
   ·first | exact eN | refine eM ?_
   ·first | exact eN | refine eM ?_
   ·obtain ⟨k, hk, hg⟩ := k
    simp only
    repeat' (first | exact trivial | refine eS rfl ?_ | refine ev_out_inv ?_ | refine rX [0, 2, 3, 4, 5, 9, 20, 29, 37] hc ?_ ?_ | (refine rC (fun hcond => ?_) (fun hcond => ?_) <;> try (cases hcond; done)))
    ·exact hcond
    ·have hk2 : k < sup.length := by exact eV
     rw [supG_step l sup hk2, if_pos hcond] at hg
     rw [← hg, if_pos (by decide)] at hf
     exact ev_fin hc [.tmp 2] rfl (.inl rfl) (by simp) (by rw [← hf]; first | exact eR | refine eRM ?_)
    ·exact eV
    ·rename_i hge
     have hk2 : k < sup.length := by exact eV
     rw [supG_step l sup hk2, if_neg (Int.not_lt.2 hge), if_pos hcond] at hg
     rw [← hg, if_pos (by decide)] at hf
     exact ev_fin hc [.tmp 2] rfl (.inl rfl) (by simp) (by rw [← hf]; first | exact eR | refine eRM ?_)
    ·exact eV
    ·rename_i hge
     have hk2 : k < sup.length := by exact eV
     rw [supG_step l sup hk2, if_neg (Int.not_lt.2 hge), if_neg (by rw [hcond]; simp)] at hg
     refine ⟨⟨k + 1, by omega, hg⟩, by simp only; omega, ent_match [] rfl rfl ?_ ?_⟩
     ·first | exact eN | refine eM ?_
     ·first | exact eN | refine eM ?_
    ·exact eV
    ·have hk2 : sup.drop k = [] := List.drop_eq_nil_of_le (by exact eV)
     rw [hk2] at hg
     rw [← hg, if_neg (by simp [supG])] at hf
     refine ⟨⟨i + 1, by omega, hf⟩, by simp only; omega, ent_match [] rfl rfl ?_ ?_⟩
     ·first | exact eN | refine eM ?_
     ·first | exact eN | refine eM ?_
  ·have hk2 : l.drop i = [] := List.drop_eq_nil_of_le (by exact eV)
   rw [hk2] at hf
   exact ev_fin hc [.tmp 2] rfl (.inl rfl) (by simp) (by rw [← hf]; first | exact eR | refine eRM ?_; rfl)
end
/- Functions of grammarlabref03: Names, placed. -/
section
attribute [local go_sem] dfindS readyS amongS putS
theorem fold_tk {α β : Type} (g : β → α → β) (l : List α) (d : α) (t : β) {i : Nat} (hi : i < l.length) : (l.take (i + 1)).foldl g t = g ((l.take i).foldl g t) (l.getD i d) := by
 rw [take_snoc l d hi, List.foldl_append]; rfl
theorem putF_len (l : List ByteArray) (s : ByteArray) : (putF l s).length ≤ l.length + 1 := by
 unfold putF
 split
 ·omega
 ·have := tw_le (fun x => strLt x s) l
  have h2 : atF l s ≤ l.length := this
  simp only [List.length_append, List.length_take, List.length_drop, List.length_singleton]
  omega
def namesL (l : List DeclD) : List ByteArray := l.foldl (fun o x => putF o x.1) []
theorem namesL_len (l : List DeclD) (k : Nat) : (namesL (l.take k)).length ≤ k := by
 have key : ∀ (l : List DeclD) (o : List ByteArray), (l.foldl (fun o x => putF o x.1) o).length ≤ o.length + l.length := by
  intro l
  induction l with
  | nil => intro o; simp
  | cons x l ih =>
   intro o
   have h1 := ih (putF o x.1)
   have h2 := putF_len o x.1
   simp only [List.foldl_cons, List.length_cons]
   omega
 have h1 := key (l.take k) []
 have h2 := List.length_take_le k l
 unfold namesL
 simp only [List.length_nil] at h1
 omega
def namesLS : Spec := { ins := [T22], pre := fun (l, _) => List.length l ≤ 100000, out := fun (l, _) => [.p T151 (namesL l)] }
attribute [local go_sem] namesLS
theorem namesL_ok : FnOk Tryz.prog 134 namesLS := by
 refine fn_ok Tryz.func134 (by kernel_rfl) rfl Tryz.ntmps134 (by decide) (by kernel_rfl) (tyTab_ok [(174, putS)]) (fns_cons put_ok fns_nil) ?_
 rintro w0 O0 ⟨l, u⟩ hc - hl
 have hl : l.length ≤ 100000 := hl
 simp only [namesLS, entEnv]
 repeat' (first | exact trivial | refine eS rfl ?_ | refine ev_out_inv ?_ | refine rX [0, 2, 3, 4, 8] hc ?_ ?_ | (refine rC (fun hcond => ?_) (fun hcond => ?_) <;> try (cases hcond; done)))
 refine ev_loop (ι := {k : Nat // k ≤ l.length}) (fun k => ⟨[(0, .p T22 l), (3, .p T151 (namesL (l.take k.1))), (4, .p (.int .i64) (k.1 : Int))], []⟩) (fun k => l.length - k.1) ⟨0, Nat.zero_le _⟩ (ent_match [] rfl rfl ?_ ?_) (fun k => ?_)
 ·first | exact eN | refine eM ?_
 ·first | exact eN | refine eM ?_
  rfl
 ·obtain ⟨k, hk⟩ := k
  have hn := namesL_len l k
  have hs := fun h : k < l.length => fold_tk (fun (o : List ByteArray) (x : DeclD) => putF o x.1) l d0 [] h
  simp only
  repeat' (first | exact trivial | refine eS rfl ?_ | refine ev_out_inv ?_ | refine rX [0, 2, 3, 4, 8] hc ?_ ?_ | (refine rC (fun hcond => ?_) (fun hcond => ?_) <;> try (cases hcond; done)))
  ·exact ⟨hcond, by omega⟩
  ·exact eV
  ·have hk2 : k < l.length := by exact eV
   have e := hs hk2
   refine ⟨⟨k + 1, by omega⟩, by simp only; omega, ent_match [] rfl rfl ?_ ?_⟩
   ·first | exact eN | refine eM ?_
   ·simp only
    have e : namesL (l.take (k + 1)) = putF (namesL (l.take k)) (l.getD k d0).1 := e
    rw [e]
    first | exact eN | refine eM ?_
  ·have hk2 : l.take k = l := List.take_of_length_le (by exact eV)
   rw [hk2]
   exact ev_fin hc [.tmp 2] rfl (.inl rfl) (by simp) (by first | exact eR | refine eRM ?_)
def pickS (out : List ByteArray) (s : Bool × ByteArray) (x : DeclD) : Bool × ByteArray :=
 if (amongF out x.1 || !readyF x out) = true then s else (true, if (!s.1 || strLt x.1 s.2) = true then x.1 else s.2)
def pickF (d : List DeclD) (out : List ByteArray) : Bool × ByteArray := d.foldl (pickS out) (false, ByteArray.empty)
def placedG (d : List DeclD) : Nat → List ByteArray → List ByteArray
 | 0, out => out
 | n + 1, out => if (pickF d out).1 = true then placedG d n (out ++ [(pickF d out).2]) else out
def placedF (d : List DeclD) : List ByteArray := placedG d d.length []
def unplaced (d : List DeclD) (out : List ByteArray) : Nat := d.countP fun x => !amongF out x.1
theorem strEq_refl (s : ByteArray) : strEq s s = true := by unfold strEq; simp
theorem amongF_app (out : List ByteArray) (s x : ByteArray) : amongF (out ++ [s]) x = (amongF out x || strEq s x) := by
 unfold amongF
 simp [List.any_append]
theorem pick_spec (d : List DeclD) (out : List ByteArray) (h : (pickF d out).1 = true) : ∃ x ∈ d, x.1 = (pickF d out).2 ∧ amongF out x.1 = false := by
 have key : ∀ (l : List DeclD) (s : Bool × ByteArray), (∀ x ∈ l, x ∈ d) → (s.1 = true → ∃ x ∈ d, x.1 = s.2 ∧ amongF out x.1 = false) → (l.foldl (pickS out) s).1 = true →
   ∃ x ∈ d, x.1 = (l.foldl (pickS out) s).2 ∧ amongF out x.1 = false := by
  intro l
  induction l with
  | nil => intro s _ hs h; exact hs h
  | cons y l ih =>
   intro s hl hs h
   rw [List.foldl_cons] at h ⊢
   refine ih _ (fun x hx => hl x (by simp [hx])) (fun hp => ?_) h
   unfold pickS at hp ⊢
   split
   ·rename_i hc
    rw [if_pos hc] at hp
    exact hs hp
   ·rename_i hc
    simp only
    have hy : amongF out y.1 = false := by
     cases hh : amongF out y.1 with
     | false => rfl
     | true => rw [hh] at hc; simp at hc
    split
    ·exact ⟨y, hl y (by simp), rfl, hy⟩
    ·rename_i hc2
     have : s.1 = true := by
      cases hh : s.1 with
      | true => rfl
      | false => rw [hh] at hc2; simp at hc2
     exact hs this
 exact key d _ (fun _ h => h) (fun h => by cases h) h
theorem unplaced_lt {d : List DeclD} {out : List ByteArray} (h : (pickF d out).1 = true) : unplaced d (out ++ [(pickF d out).2]) < unplaced d out := by
 obtain ⟨x, hx, h1, h2⟩ := pick_spec d out h
 generalize (pickF d out).2 = s at *
 unfold unplaced
 have key : ∀ l : List DeclD, (l.countP fun y => !amongF (out ++ [s]) y.1) ≤ l.countP fun y => !amongF out y.1 := by
  intro l
  refine List.countP_mono_left fun y _ hy => ?_
  rw [amongF_app] at hy
  cases hh : amongF out y.1 with
  | false => rfl
  | true => rw [hh] at hy; simp at hy
 obtain ⟨l1, l2, rfl⟩ := List.append_of_mem hx
 rw [List.countP_append, List.countP_append, List.countP_cons, List.countP_cons]
 have k1 := key l1
 have k2 := key l2
 have e1 : amongF (out ++ [s]) x.1 = true := by rw [amongF_app, h1, strEq_refl, Bool.or_true]
 rw [e1, h2]
 simp only [Bool.not_true, Bool.not_false, if_true]
 simp only [Bool.false_eq_true, if_false]
 omega
def placedS : Spec := { ins := [T22], pre := fun (l, _) => List.length l ≤ 100000, out := fun (l, _) => [.p T151 (placedF l)] }
theorem placed_ok : FnOk Tryz.prog 181 placedS := by
 refine fn_ok Tryz.func181 (by kernel_rfl) rfl Tryz.ntmps181 (by decide) (by kernel_rfl) (tyTab_ok [(183, amongS), (207, readyS)]) (fns_cons among_ok (fns_cons ready_ok fns_nil)) ?_
 rintro w0 O0 ⟨d, u⟩ hc - hd
 have hd : d.length ≤ 100000 := hd
 simp only [placedS, entEnv]
 repeat' (first | exact trivial | refine eS rfl ?_ | refine ev_out_inv ?_ | refine rX [0, 2, 3, 4, 5, 6, 7, 11, 29, 40, 46] hc ?_ ?_ | (refine rC (fun hcond => ?_) (fun hcond => ?_) <;> try (cases hcond; done)))
 refine ev_loop (ι := {x : Nat × List ByteArray × Bool // x.1 + x.2.1.length ≤ d.length ∧ (x.2.2 = true → unplaced d x.2.1 ≤ x.1 ∧ placedG d x.1 x.2.1 = placedF d) ∧ (x.2.2 = false → x.2.1 = placedF d)}) (fun x => ⟨[(0, .p T22 d), (3, .sr 50 T9 0 x.1.2.1.length), (4, .p .bool x.1.2.2)], [(50, .arr 9 T9 x.1.2.1)]⟩) (fun x => (if x.1.2.2 = true then x.1.1 + 1 else 0)) ⟨(d.length, [], true), by simp, fun _ => ⟨List.countP_le_length, rfl⟩, fun h => by cases h⟩ (ent_match [(50, .nil)] rfl rfl ?_ ?_) (fun x => ?_)
 ·first | exact eN | refine eM ?_
 ·first | exact eN | refine eM ?_
 ·obtain ⟨⟨n, out, more⟩, hlen, hm1, hm2⟩ := x
  simp only at hlen hm1 hm2
  simp only
  repeat' (first | exact trivial | refine eS rfl ?_ | refine ev_out_inv ?_ | refine rX [0, 2, 3, 4, 5, 6, 7, 11, 29, 40, 46] hc ?_ ?_ | (refine rC (fun hcond => ?_) (fun hcond => ?_) <;> try (cases hcond; done)))
  ·subst hcond
   obtain ⟨hu, hp⟩ := hm1 rfl
   have hz : ({ data := #[] } : ByteArray).size ≤ maxN := by decide
   rw [if_pos hz]
   refine ev_loop (ι := {y : Nat × Bool × ByteArray // y.1 ≤ d.length ∧ (d.take y.1).foldl (pickS out) (false, ByteArray.empty) = y.2}) (fun y => ⟨[(0, .p T22 d), (3, .sr 50 T9 0 out.length), (4, .p .bool y.1.2.1), (5, .p T9 y.1.2.2), (6, .p (.int .i64) (y.1.1 : Int))], [(50, .arr 9 T9 out)]⟩) (fun y => d.length - y.1.1) ⟨(0, false, ByteArray.empty), by simp, rfl⟩ (ent_match [(50, .nm 50)] rfl rfl ?_ ?_) (fun y => ?_)
   ·first | exact eN | refine eM ?_
   ·first | exact eN | refine eM ?_
    rfl
   ·obtain ⟨⟨k, mo, nx⟩, hk, hfold⟩ := y
    simp only at hk hfold
    have hstep : ∀ h : k < d.length, (d.take (k + 1)).foldl (pickS out) (false, ByteArray.empty) = pickS out (mo, nx) (d.getD k d0) := fun h => by
     rw [fold_tk (pickS out) d d0 _ h, hfold]
    simp only
    repeat' (first | exact trivial | refine eS rfl ?_ | refine ev_out_inv ?_ | refine rX [0, 2, 3, 4, 5, 6, 7, 11, 29, 40, 46] hc ?_ ?_ | (refine rC (fun hcond => ?_) (fun hcond => ?_) <;> try (cases hcond; done)))
    ·exact ⟨hcond, fun _ => hcond⟩
    ·exact eV
    ·have hk2 : k < d.length := by exact eV
     refine ⟨⟨(k + 1, mo, nx), by simp only; omega, ?_⟩, by simp only; omega, ent_match [(50, .nm 50)] rfl rfl ?_ ?_⟩
     ·simp only
      rw [hstep hk2]
      unfold pickS
      rw [if_pos]
      rw [Bool.or_eq_true, Bool.not_eq_true']
      exact hcond
     ·first | exact eN | refine eM ?_
     ·first | exact eN | refine eM ?_
    ·exact fun _ => by assumption
    ·assumption
    ·exact eV
    ·rename_i hc2
     have hk2 : k < d.length := by exact eV
     refine ⟨⟨(k + 1, true, (d.getD k d0).1), by simp only; omega, ?_⟩, by simp only; omega, ent_match [(50, .nm 50)] rfl rfl ?_ ?_⟩
     ·simp only
      rw [hstep hk2]
      unfold pickS
      rw [if_neg (by rw [hc2.1, hc2.2]; simp), if_pos (by rw [Bool.or_eq_true, Bool.not_eq_true']; exact hcond)]
     ·first | exact eN | refine eM ?_
     ·first | exact eN | refine eM ?_
    ·exact eV
    ·rename_i hc2
     have hk2 : k < d.length := by exact eV
     refine ⟨⟨(k + 1, true, nx), by simp only; omega, ?_⟩, by simp only; omega, ent_match [(50, .nm 50)] rfl rfl ?_ ?_⟩
     ·simp only
      rw [hstep hk2]
      unfold pickS
      rw [if_neg (by rw [hc2.1, hc2.2]; simp), if_neg (by rw [Bool.or_eq_true, Bool.not_eq_true']; rintro (h | h) <;> simp_all)]
     ·first | exact eN | refine eM ?_
     ·first | exact eN | refine eM ?_
    ·simp only [maxN]
     dsimp only [Ty.den] at *
     omega
    ·subst hcond
     have hkd : d.take k = d := List.take_of_length_le (by exact eV)
     rw [hkd] at hfold
     have hpk : pickF d out = (true, nx) := hfold
     have hlt := unplaced_lt (d := d) (out := out) (by rw [hpk])
     rw [hpk] at hlt
     obtain ⟨n', rfl⟩ : ∃ n', n = n' + 1 := ⟨n - 1, by omega⟩
     have hp2 : placedG d n' (out ++ [nx]) = placedF d := by
      rw [← hp]
      show _ = if (pickF d out).1 = true then placedG d n' (out ++ [(pickF d out).2]) else out
      rw [hpk, if_pos rfl]
     have hlt : unplaced d (out ++ [nx]) < unplaced d out := hlt
     have hun : unplaced d (out ++ [nx]) ≤ n' := by omega
     refine ⟨⟨(n', out ++ [nx], true), by simp only [List.length_append, List.length_singleton]; omega, fun _ => ⟨hun, hp2⟩, fun h => by cases h⟩, by simp, ent_match [(50, .nm 50)] rfl rfl ?_ ?_⟩
     ·first | exact eN | refine eM ?_
     ·first | exact eN | refine eM ?_
    ·subst hcond
     have hkd : d.take k = d := List.take_of_length_le (by exact eV)
     rw [hkd] at hfold
     have hpk : pickF d out = (false, nx) := hfold
     have hp2 : out = placedF d := by
      rw [← hp]
      cases n with
      | zero => rfl
      | succ n =>
       show _ = if (pickF d out).1 = true then placedG d n (out ++ [(pickF d out).2]) else out
       rw [hpk, if_neg (by simp)]
     refine ⟨⟨(n, out, false), hlen, (fun h => by cases h), fun _ => hp2⟩, by simp, ent_match [(50, .nm 50)] rfl rfl ?_ ?_⟩
     ·first | exact eN | refine eM ?_
     ·first | exact eN | refine eM ?_
  ·subst hcond
   have hout := hm2 rfl
   rw [hout]
   refine frzE [50] ?_
   exact ev_fin hc [.tmp 2] rfl (.inl rfl) (by simp) (by first | exact eR | refine eRM ?_)
end
/- Functions of grammarlabref03: Check. -/
section
attribute [local go_sem] sizesS namesS supersS placedS
def rootsN (d : List DeclD) : Nat := d.countP fun x => x.2.1.length == 0
theorem rootsN_succ (d : List DeclD) {k : Nat} (h : k < d.length) : rootsN (d.take (k + 1)) = rootsN (d.take k) + if ((d.getD k d0).2.1.length == 0) = true then 1 else 0 := by
 unfold rootsN
 rw [take_snoc d d0 h, List.countP_append, List.countP_cons, List.countP_nil]
 omega
theorem rootsN_le (d : List DeclD) : rootsN d ≤ d.length := List.countP_le_length
def check3F (d : List DeclD) : Int :=
 if sizesF d ≠ 0 then sizesF d else if namesF d ≠ 0 then namesF d else if supersF d ≠ 0 then supersF d else if rootsN d ≠ 1 then 1 else if (placedF d).length < d.length then 6 else 0
theorem sizesF_zero {d : List DeclD} (h : sizesF d = 0) : d.length ≤ 256 := by
 unfold sizesF at h
 split at h
 ·cases h
 ·omega
def check3S : Spec := { ins := [T22], pre := fun _ => True, out := fun (l, _) => [.p T79 (check3F l)] }
attribute [local go_sem] check3S
theorem check3_ok : FnOk Tryz.prog 133 check3S := by
 refine fn_ok Tryz.func133 (by kernel_rfl) rfl Tryz.ntmps133 (by decide) (by kernel_rfl) (tyTab_ok [(178, sizesS), (179, namesS), (180, supersS), (181, placedS)]) (fns_cons sizes_ok (fns_cons names_ok (fns_cons supers_ok (fns_cons placed_ok fns_nil)))) ?_
 rintro w0 O0 ⟨d, u⟩ hc - -
 simp only [check3S, entEnv]
 repeat' (first | exact trivial | refine eS rfl ?_ | refine ev_out_inv ?_ | refine rX [0, 2, 3, 4, 5, 6, 7, 11, 16, 21, 26, 35, 39, 45] hc ?_ ?_ | (refine rC (fun hcond => ?_) (fun hcond => ?_) <;> try (cases hcond; done)))
 ·have h1 : check3F d = sizesF d := by unfold check3F; rw [if_pos hcond]
  exact ev_fin hc [.tmp 2] rfl (.inl rfl) (by simp) (by rw [h1]; first | exact eR | refine eRM ?_)
 ·rename_i hs
  have hs : sizesF d = 0 := by simpa using hs
  have h1 : check3F d = namesF d := by unfold check3F; rw [if_neg (by rw [hs]; simp), if_pos hcond]
  exact ev_fin hc [.tmp 2] rfl (.inl rfl) (by simp) (by rw [h1]; first | exact eR | refine eRM ?_)
 ·rename_i hs hn
  have hs : sizesF d = 0 := by simpa using hs
  have hn : namesF d = 0 := by simpa using hn
  have h1 : check3F d = supersF d := by unfold check3F; rw [if_neg (by rw [hs]; simp), if_neg (by rw [hn]; simp), if_pos hcond]
  exact ev_fin hc [.tmp 2] rfl (.inl rfl) (by simp) (by rw [h1]; first | exact eR | refine eRM ?_)
 ·rename_i hs hn
  have hs : sizesF d = 0 := by simpa using hs
  have hn : namesF d = 0 := by simpa using hn
  have hu : supersF d = 0 := by simpa using hcond
  have hd := sizesF_zero hs
  have h1 : check3F d = if rootsN d ≠ 1 then 1 else if (placedF d).length < d.length then 6 else 0 := by
   unfold check3F; rw [if_neg (by rw [hs]; simp), if_neg (by rw [hn]; simp), if_neg (by rw [hu]; simp)]
  refine ev_loop (ι := {k : Nat // k ≤ d.length}) (fun k => ⟨[(0, .p T22 d), (6, .p (.int .i64) (rootsN (d.take k.1) : Int)), (7, .p (.int .i64) (k.1 : Int))], []⟩) (fun k => d.length - k.1) ⟨0, Nat.zero_le _⟩ (ent_match [] rfl rfl ?_ ?_) (fun k => ?_)
  ·first | exact eN | refine eM ?_
  ·first | exact eN | refine eM ?_
   rfl
  ·obtain ⟨k, hk⟩ := k
   have hr := rootsN_le (d.take k)
   have hr2 := List.length_take_le k d
   have hsu := fun h : k < d.length => rootsN_succ d h
   simp only
   repeat' (first | exact trivial | refine eS rfl ?_ | refine ev_out_inv ?_ | refine rX [0, 2, 3, 4, 5, 6, 7, 11, 16, 21, 26, 35, 39, 45] hc ?_ ?_ | (refine rC (fun hcond => ?_) (fun hcond => ?_) <;> try (cases hcond; done)))
   ·exact hcond
   ·exact eV
   ·exact eV
   ·have hk2 : k < d.length := by exact eV
    have e := hsu hk2
    rw [if_pos (by rw [beq_iff_eq]; exact Int.ofNat_eq_zero.1 hcond)] at e
    refine ⟨⟨k + 1, by omega⟩, by simp only; omega, ent_match [] rfl rfl ?_ ?_⟩
    ·first | exact eN | refine eM ?_
    ·simp only [e]
     first | exact eN | refine eM ?_
   ·exact eV
   ·have hk2 : k < d.length := by exact eV
    have e := hsu hk2
    rw [if_neg (by rw [beq_iff_eq]; exact fun h => hcond (Int.ofNat_eq_zero.2 h))] at e
    refine ⟨⟨k + 1, by omega⟩, by simp only; omega, ent_match [] rfl rfl ?_ ?_⟩
    ·first | exact eN | refine eM ?_
    ·simp only [e]
     first | exact eN | refine eM ?_
   ·have hk2 : d.take k = d := List.take_of_length_le (by exact eV)
    rw [hk2] at hcond
    rw [if_pos (fun h => hcond (by rw [h]; rfl))] at h1
    exact ev_fin hc [.tmp 2] rfl (.inl rfl) (by simp) (by rw [h1]; first | exact eR | refine eRM ?_)
   ·show d.length ≤ 100000
    omega
   ·rename_i hro
    have hk2 : d.take k = d := List.take_of_length_le (by exact eV)
    rw [hk2] at hro
    have hro : (rootsN d : Int) = 1 := by simpa using hro
    rw [if_neg (by omega), if_pos (Int.ofNat_lt.1 hcond)] at h1
    exact ev_fin hc [.tmp 2] rfl (.inl rfl) (by simp) (by rw [h1]; first | exact eR | refine eRM ?_)
   ·rename_i hro
    have hk2 : d.take k = d := List.take_of_length_le (by exact eV)
    rw [hk2] at hro
    have hro : (rootsN d : Int) = 1 := by simpa using hro
    rw [if_neg (by omega), if_neg (fun h => absurd (Int.ofNat_le.1 hcond) (Nat.not_le.2 h))] at h1
    exact ev_fin hc [.tmp 2] rfl (.inl rfl) (by simp) (by rw [h1]; first | exact eR | refine eRM ?_)
end
/- Functions of grammarlabref03: Above. -/
section
attribute [local go_sem] dfindS amongS putS
def addA (o : List ByteArray) (s : ByteArray) : List ByteArray := if amongF o s = true then o else o ++ [s]
def supsOf (d : List DeclD) (s : ByteArray) : List ByteArray := (d.getD (dfindF d s).toNat d0).2.1
def aboveG (d : List DeclD) : Nat → Nat → List ByteArray → List ByteArray
 | 0, _, o => o
 | n + 1, i, o => if i < o.length then aboveG d n (i + 1) ((supsOf d (o.getD i ByteArray.empty)).foldl addA o) else o
def sortL (l : List ByteArray) : List ByteArray := l.foldl putF []
theorem sortL_len (l : List ByteArray) : (sortL l).length ≤ l.length := by
 have key : ∀ (l o : List ByteArray), (l.foldl putF o).length ≤ o.length + l.length := by
  intro l
  induction l with
  | nil => intro o; simp
  | cons x l ih =>
   intro o
   have h1 := ih (putF o x)
   have h2 := putF_len o x
   simp only [List.foldl_cons, List.length_cons]
   omega
 have := key l []
 simpa [sortL] using this
def aboveF (d : List DeclD) (s : ByteArray) : List ByteArray := if dfindF d s < 0 then [] else sortL (aboveG d d.length 0 [s])
def SupOk (d : List DeclD) : Prop := ∀ x ∈ d, ∀ s ∈ x.2.1, 0 ≤ dfindF d s
theorem dfindG_le (s : ByteArray) : ∀ (l : List DeclD) (k : Nat), dfindG s k l = -1 ∨ ((k : Int) ≤ dfindG s k l ∧ dfindG s k l < (k : Int) + l.length ∧ strEq (l.getD ((dfindG s k l).toNat - k) d0).1 s = true)
 | [], _ => .inl rfl
 | x :: l, k => by
  simp only [dfindG]
  split
  ·rename_i h
   right
   refine ⟨by omega, by simp only [List.length_cons]; omega, ?_⟩
   have : ((k : Int).toNat - k) = 0 := by omega
   rw [this]
   exact h
  ·rcases dfindG_le s l (k + 1) with h | ⟨h1, h2, h3⟩
   ·exact .inl h
   ·right
    refine ⟨by omega, by simp only [List.length_cons]; omega, ?_⟩
    have : ((dfindG s (k + 1) l).toNat - k) = ((dfindG s (k + 1) l).toNat - (k + 1)) + 1 := by omega
    rw [this]
    exact h3
theorem dfindF_spec (d : List DeclD) (s : ByteArray) : dfindF d s < 0 ∨ (0 ≤ dfindF d s ∧ dfindF d s < (d.length : Int) ∧ strEq (d.getD (dfindF d s).toNat d0).1 s = true) := by
 rcases dfindG_le s d 0 with h | ⟨h1, h2, h3⟩
 ·left; show dfindG s 0 d < 0; omega
 ·have h2 : dfindF d s < ((0 : Nat) : Int) + d.length := h2
  exact .inr ⟨h1, by omega, h3⟩
theorem strEq_iff {a b : ByteArray} : strEq a b = true ↔ a.toList = b.toList := by unfold strEq; simp
theorem strEq_symm {a b : ByteArray} (h : strEq a b = true) : strEq b a = true := strEq_iff.2 (strEq_iff.1 h).symm
theorem strEq_trans {a b c : ByteArray} (h : strEq a b = true) (g : strEq b c = true) : strEq a c = true := strEq_iff.2 ((strEq_iff.1 h).trans (strEq_iff.1 g))
structure AOk (d : List DeclD) (o : List ByteArray) : Prop where
 decl : ∀ s ∈ o, 0 ≤ dfindF d s
 nd : o.Pairwise fun a b => strEq a b = false
theorem pw_map_nodup (d : List DeclD) : ∀ {o : List ByteArray}, AOk d o → (o.map fun s => (dfindF d s).toNat).Nodup
 | [], _ => by simp
 | s :: o, h => by
  rw [List.map_cons, List.nodup_cons]
  have hnd := List.pairwise_cons.1 h.nd
  refine ⟨fun hm => ?_, pw_map_nodup d ⟨fun x hx => h.decl x (by simp [hx]), hnd.2⟩⟩
  obtain ⟨x, hx, e⟩ := List.mem_map.1 hm
  have h1 := h.decl s (by simp)
  have h2 := h.decl x (by simp [hx])
  rcases dfindF_spec d s with g | ⟨_, _, g1⟩
  ·omega
  ·rcases dfindF_spec d x with g | ⟨_, _, g2⟩
   ·omega
   ·rw [e] at g2
    have := hnd.1 x hx
    rw [strEq_trans (strEq_symm g1) g2] at this
    cases this
theorem AOk.len {d : List DeclD} {o : List ByteArray} (h : AOk d o) : o.length ≤ d.length := by
 have := nodup_len d.length (o.map fun s => (dfindF d s).toNat) (pw_map_nodup d h) (fun j hj => by
  obtain ⟨s, hs, rfl⟩ := List.mem_map.1 hj
  have h1 := h.decl s hs
  rcases dfindF_spec d s with g | ⟨_, g, _⟩ <;> omega)
 simpa using this
theorem amongF_false {o : List ByteArray} {s : ByteArray} (h : amongF o s = false) : ∀ x ∈ o, strEq x s = false := fun x hx => by
 cases hh : strEq x s with
 | false => rfl
 | true => exact absurd h (by rw [show amongF o s = true from List.any_eq_true.2 ⟨x, hx, hh⟩]; simp)
theorem addA_ok {d : List DeclD} {o : List ByteArray} (h : AOk d o) {s : ByteArray} (hs : 0 ≤ dfindF d s) : AOk d (addA o s) := by
 unfold addA
 split
 ·exact h
 ·rename_i hc
  have hc : amongF o s = false := by simpa using hc
  refine ⟨fun x hx => ?_, ?_⟩
  ·rcases List.mem_append.1 hx with hx | hx
   ·exact h.decl x hx
   ·have : x = s := by simpa using hx
    rw [this]; exact hs
  ·rw [List.pairwise_append]
   refine ⟨h.nd, by simp, fun a ha b hb => ?_⟩
   have : b = s := by simpa using hb
   rw [this]
   exact amongF_false hc a ha
theorem addAs_ok {d : List DeclD} : ∀ {l o : List ByteArray}, (∀ s ∈ l, 0 ≤ dfindF d s) → AOk d o → AOk d (l.foldl addA o) ∧ o.length ≤ (l.foldl addA o).length
 | [], o, _, h => ⟨h, Nat.le_refl _⟩
 | s :: l, o, hl, h => by
  obtain ⟨g1, g2⟩ := addAs_ok (l := l) (fun x hx => hl x (by simp [hx])) (addA_ok h (hl s (by simp)))
  refine ⟨g1, Nat.le_trans ?_ g2⟩
  unfold addA
  split <;> simp
theorem supsOf_decl {d : List DeclD} (hd : SupOk d) (s : ByteArray) : ∀ x ∈ supsOf d s, 0 ≤ dfindF d x := by
 intro x hx
 unfold supsOf at hx
 by_cases h : (dfindF d s).toNat < d.length
 ·exact hd _ (mem_of_take_succ d d0 h) x hx
 ·rw [List.getD_eq_getElem?_getD, List.getElem?_eq_none (by omega)] at hx
  cases hx
def aboveS : Spec := { ins := [T22, T9], pre := fun (d, _, _) => SupOk d ∧ List.length d ≤ 256, out := fun (d, s, _) => [.p T151 (aboveF d s)] }
theorem above_ok : FnOk Tryz.prog 209 aboveS := by
 refine fn_ok Tryz.func209 (by kernel_rfl) rfl Tryz.ntmps209 (by decide) (by kernel_rfl) (tyTab_ok [(206, dfindS), (183, amongS), (174, putS)]) (fns_cons dfind_ok (fns_cons among_ok (fns_cons put_ok fns_nil))) ?_
 rintro w0 O0 ⟨d, s, u⟩ hc ⟨⟨hdl, hall⟩, -⟩ ⟨hsup, hd⟩
 have hd : d.length ≤ 256 := hd
 simp only [aboveS, entEnv]
 repeat' (first | exact trivial | refine eS rfl ?_ | refine ev_out_inv ?_ | refine rX [0, 1, 4, 5, 6, 7, 8, 9, 10, 14, 20, 36, 45, 56] hc ?_ ?_ | (refine rC (fun hcond => ?_) (fun hcond => ?_) <;> try (cases hcond; done)))
 ·have h1 : aboveF d s = [] := by unfold aboveF; rw [if_pos hcond]
  exact ev_fin hc [.tmp 4] rfl (.inl rfl) (by simp) (by rw [h1]; first | exact eR | refine eRM ?_)
 ·have h1 : aboveF d s = sortL (aboveG d d.length 0 [s]) := by unfold aboveF; rw [if_neg (Int.not_lt.2 hcond)]
  have hA0 : AOk d [s] := ⟨fun x hx => by
   have : x = s := by simpa using hx
   rw [this]; exact hcond, by simp⟩
  refine ev_loop (ι := {x : Nat × List ByteArray // x.1 ≤ x.2.length ∧ AOk d x.2 ∧ aboveG d (d.length - x.1) x.1 x.2 = aboveG d d.length 0 [s]}) (fun x => ⟨[(0, .p T22 d), (1, .p T9 s), (5, .sr 16 T9 0 x.1.2.length), (6, .p (.int .i64) (x.1.1 : Int))], [(16, .arr 9 T9 x.1.2)]⟩) (fun x => d.length - x.1.1) ⟨(0, [s]), by simp, hA0, rfl⟩ (ent_match [(16, .nm 16)] rfl rfl ?_ ?_) (fun x => ?_)
  ·first | exact eN | refine eM ?_
  ·first | exact eN | refine eM ?_
  ·obtain ⟨⟨i, o⟩, hi, hA, hg⟩ := x
   simp only at hi hA hg
   have hol := hA.len
   simp only
   repeat' (first | exact trivial | refine eS rfl ?_ | refine ev_out_inv ?_ | refine rX [0, 1, 4, 5, 6, 7, 8, 9, 10, 14, 20, 36, 45, 56] hc ?_ ?_ | (refine rC (fun hcond => ?_) (fun hcond => ?_) <;> try (cases hcond; done)))
   ·have hi2 : i < o.length := by exact eV
    have hde := hA.decl _ (mem_of_take_succ o ByteArray.empty hi2)
    refine ⟨hcond, hde, ?_⟩
    rcases dfindF_spec d (o.getD i ByteArray.empty) with g | ⟨_, g, _⟩
    ·omega
    ·exact g
   ·have hi2 : i < o.length := by exact eV
    have hde := hA.decl _ (mem_of_take_succ o ByteArray.empty hi2)
    have hsd := supsOf_decl hsup (o.getD i ByteArray.empty)
    have hnext : aboveG d (d.length - (i + 1)) (i + 1) ((supsOf d (o.getD i ByteArray.empty)).foldl addA o) = aboveG d d.length 0 [s] := by
     rw [← hg]
     obtain ⟨m, hm⟩ : ∃ m, d.length - i = m + 1 := ⟨d.length - i - 1, by omega⟩
     have hm2 : d.length - (i + 1) = m := by omega
     rw [hm, hm2]
     show _ = if i < o.length then aboveG d m (i + 1) ((supsOf d (o.getD i ByteArray.empty)).foldl addA o) else o
     rw [if_pos hi2]
    have hsl : (supsOf d (o.getD i ByteArray.empty)).length ≤ maxN := by
     rcases dfindF_spec d (o.getD i ByteArray.empty) with g | ⟨_, g, _⟩
     ·omega
     ·exact (hall _ (mem_of_take_succ d d0 (k := (dfindF d (o.getD i ByteArray.empty)).toNat) (by omega))).2.1.1
    have hsu : (List.getD d (dfindF d (o.getD i ByteArray.empty)).toNat (ByteArray.empty, [], [])).2.1 = supsOf d (o.getD i ByteArray.empty) := rfl
    rw [hsu]
    generalize supsOf d (o.getD i ByteArray.empty) = sup at *
    simp only [maxN] at hsl
    refine ev_loop (ι := {k : Nat // k ≤ sup.length}) (fun k => ⟨[(0, .p T22 d), (1, .p T9 s), (5, .sr 16 T9 0 ((sup.take k.1).foldl addA o).length), (6, .p (.int .i64) (i : Int)), (7, .p T151 sup), (8, .p (.int .i64) (k.1 : Int))], [(16, .arr 9 T9 ((sup.take k.1).foldl addA o))]⟩) (fun k => sup.length - k.1) ⟨0, Nat.zero_le _⟩ (ent_match [(16, .nm 16)] rfl rfl ?_ ?_) (fun k => ?_)
    ·first | exact eN | refine eM ?_
     rfl
    ·first | exact eN | refine eM ?_
     rfl
    ·obtain ⟨k, hk⟩ := k
     have hok := addAs_ok (l := sup.take k) (o := o) (fun x hx => hsd x (List.mem_of_mem_take hx)) hA
     have hok2 := hok.1.len
     have hstep := fun h : k < sup.length => fold_tk addA sup ByteArray.empty o h
     simp only
     generalize ho2 : (sup.take k).foldl addA o = o2 at *
     repeat' (first | exact trivial | refine eS rfl ?_ | refine ev_out_inv ?_ | refine rX [0, 1, 4, 5, 6, 7, 8, 9, 10, 14, 20, 36, 45, 56] hc ?_ ?_ | (refine rC (fun hcond => ?_) (fun hcond => ?_) <;> try (cases hcond; done)))
     ·exact hcond
     ·refine ⟨by exact eV, ?_⟩
      simp only [maxN]
      dsimp only [Ty.den] at *
      omega
     ·exact eV
     ·have hk2 : k < sup.length := by exact eV
      have e := hstep hk2
      have e2 : addA o2 (sup.getD k ByteArray.empty) = o2 ++ [sup.getD k ByteArray.empty] := by unfold addA; rw [if_neg (by rw [hcond]; simp)]
      rw [e2] at e
      refine ⟨⟨k + 1, by omega⟩, by simp only; omega, ent_match [(16, .nm 16)] rfl rfl ?_ ?_⟩
      ·simp only [e]
       first | exact eN | refine eM ?_
      ·simp only [e]
       first | exact eN | refine eM ?_
     ·exact eV
     ·have hk2 : k < sup.length := by exact eV
      have e := hstep hk2
      have e2 : addA o2 (sup.getD k ByteArray.empty) = o2 := by unfold addA; rw [if_pos hcond]
      rw [e2] at e
      refine ⟨⟨k + 1, by omega⟩, by simp only; omega, ent_match [(16, .nm 16)] rfl rfl ?_ ?_⟩
      ·simp only [e]
       first | exact eN | refine eM ?_
      ·simp only [e]
       first | exact eN | refine eM ?_
     ·exact eV
     ·have hk2 : sup.take k = sup := List.take_of_length_le (by exact eV)
      rw [hk2] at ho2
      rw [ho2] at hnext
      have hok1 := hok.1
      have hokl := hok.2
      refine ⟨⟨(i + 1, o2), by simp only; omega, hok1, hnext⟩, by simp only; omega, ent_match [(16, .nm 16)] rfl rfl ?_ ?_⟩
      ·first | exact eN | refine eM ?_
      ·first | exact eN | refine eM ?_
   ·have hoe : o = aboveG d d.length 0 [s] := by
     rw [← hg]
     cases hm : d.length - i with
     | zero => rfl
     | succ m =>
      show _ = if i < o.length then _ else o
      rw [if_neg (by exact eV)]
    rw [← hoe] at h1
    refine ev_loop (ι := {j : Nat // j ≤ o.length}) (fun j => ⟨[(0, .p T22 d), (5, .sr 16 T9 0 o.length), (9, .p T151 ((o.take j.1).foldl putF [])), (10, .p (.int .i64) (j.1 : Int))], [(16, .arr 9 T9 o)]⟩) (fun j => o.length - j.1) ⟨0, Nat.zero_le _⟩ (ent_match [(16, .nm 16)] rfl rfl ?_ ?_) (fun j => ?_)
    ·first | exact eN | refine eM ?_
    ·first | exact eN | refine eM ?_
     rfl
    ·obtain ⟨j, hj⟩ := j
     have hsj := fun h : j < o.length => fold_tk putF o ByteArray.empty [] h
     simp only
     repeat' (first | exact trivial | refine eS rfl ?_ | refine ev_out_inv ?_ | refine rX [0, 1, 4, 5, 6, 7, 8, 9, 10, 14, 20, 36, 45, 56] hc ?_ ?_ | (refine rC (fun hcond => ?_) (fun hcond => ?_) <;> try (cases hcond; done)))
     ·refine ⟨hcond, ?_⟩
      have := sortL_len (o.take j)
      have h3 := List.length_take_le j o
      unfold sortL at this
      dsimp only [Ty.den] at *
      omega
     ·exact eV
     ·have hj2 : j < o.length := by exact eV
      have e := hsj hj2
      refine ⟨⟨j + 1, by omega⟩, by simp only; omega, ent_match [(16, .nm 16)] rfl rfl ?_ ?_⟩
      ·first | exact eN | refine eM ?_
      ·simp only [e]
       first | exact eN | refine eM ?_
     ·have hj2 : o.take j = o := List.take_of_length_le (by exact eV)
      rw [hj2]
      exact ev_fin hc [.tmp 4] rfl (.inl rfl) (by simp) (by rw [h1]; unfold sortL; first | exact eR | refine eRM ?_)
end
/- Functions of grammarlabref03: Below. -/
section
attribute [local go_sem] dfindS amongS putS
def addB (s : ByteArray) (o : List ByteArray) (x : DeclD) : List ByteArray := if (amongF x.2.1 s && !amongF o x.1) = true then o ++ [x.1] else o
def belowG (d : List DeclD) : Nat → Nat → List ByteArray → List ByteArray
 | 0, _, o => o
 | n + 1, i, o => if i < o.length then belowG d n (i + 1) (d.foldl (addB (o.getD i ByteArray.empty)) o) else o
def belowF (d : List DeclD) (s : ByteArray) : List ByteArray := if dfindF d s < 0 then [] else sortL (belowG d d.length 0 [s])
theorem dfindG_mem (s : ByteArray) : ∀ (l : List DeclD) (k : Nat) (x : DeclD), x ∈ l → strEq x.1 s = true → 0 ≤ dfindG s k l
 | y :: l, k, x, hx, h => by
  simp only [dfindG]
  split
  ·omega
  ·rename_i hc
   rcases List.mem_cons.1 hx with rfl | hx
   ·exact absurd h hc
   ·exact dfindG_mem s l (k + 1) x hx h
theorem dfind_self {d : List DeclD} {x : DeclD} (hx : x ∈ d) : 0 ≤ dfindF d x.1 := dfindG_mem x.1 d 0 x hx (strEq_refl _)
theorem addB_ok {d : List DeclD} {o : List ByteArray} (h : AOk d o) (s : ByteArray) {x : DeclD} (hx : x ∈ d) : AOk d (addB s o x) := by
 unfold addB
 split
 ·rename_i hc
  rw [Bool.and_eq_true, Bool.not_eq_true'] at hc
  have := addA_ok h (dfind_self hx)
  unfold addA at this
  rwa [if_neg (by rw [hc.2]; simp)] at this
 ·exact h
theorem addBs_ok {d : List DeclD} (s : ByteArray) : ∀ {l : List DeclD} {o : List ByteArray}, (∀ x ∈ l, x ∈ d) → AOk d o → AOk d (l.foldl (addB s) o) ∧ o.length ≤ (l.foldl (addB s) o).length
 | [], o, _, h => ⟨h, Nat.le_refl _⟩
 | x :: l, o, hl, h => by
  obtain ⟨g1, g2⟩ := addBs_ok s (l := l) (fun y hy => hl y (by simp [hy])) (addB_ok h s (hl x (by simp)))
  refine ⟨g1, Nat.le_trans ?_ g2⟩
  unfold addB
  split <;> simp
theorem addBs_get (s : ByteArray) {i : Nat} : ∀ {l : List DeclD} {o : List ByteArray}, i < o.length → (l.foldl (addB s) o).getD i ByteArray.empty = o.getD i ByteArray.empty
 | [], _, _ => rfl
 | x :: l, o, h => by
  have h2 : i < (addB s o x).length ∧ (addB s o x).getD i ByteArray.empty = o.getD i ByteArray.empty := by
   unfold addB
   split
   ·refine ⟨by rw [List.length_append]; omega, ?_⟩
    simp only [List.getD_eq_getElem?_getD]
    rw [List.getElem?_append_left h]
   ·exact ⟨h, rfl⟩
  rw [List.foldl_cons, addBs_get s h2.1, h2.2]
def belowS : Spec := { ins := [T22, T9], pre := fun (d, _, _) => List.length d ≤ 256, out := fun (d, s, _) => [.p T151 (belowF d s)] }
attribute [local go_sem] belowS
theorem below_ok : FnOk Tryz.prog 182 belowS := by
 refine fn_ok Tryz.func182 (by kernel_rfl) rfl Tryz.ntmps182 (by decide) (by kernel_rfl) (tyTab_ok [(206, dfindS), (183, amongS), (174, putS)]) (fns_cons dfind_ok (fns_cons among_ok (fns_cons put_ok fns_nil))) ?_
 rintro w0 O0 ⟨d, s, u⟩ hc - hd
 have hd : d.length ≤ 256 := hd
 simp only [belowS, entEnv]
 repeat' (first | exact trivial | refine eS rfl ?_ | refine ev_out_inv ?_ | refine rX [0, 1, 4, 5, 6, 7, 8, 9, 13, 19, 25, 47, 59] hc ?_ ?_ | (refine rC (fun hcond => ?_) (fun hcond => ?_) <;> try (cases hcond; done)))
 ·have h1 : belowF d s = [] := by unfold belowF; rw [if_pos hcond]
  exact ev_fin hc [.tmp 4] rfl (.inl rfl) (by simp) (by rw [h1]; first | exact eR | refine eRM ?_)
 ·have h1 : belowF d s = sortL (belowG d d.length 0 [s]) := by unfold belowF; rw [if_neg (Int.not_lt.2 hcond)]
  have hA0 : AOk d [s] := ⟨fun x hx => by
   have : x = s := by simpa using hx
   rw [this]; exact hcond, by simp⟩
  refine ev_loop (ι := {x : Nat × List ByteArray // x.1 ≤ x.2.length ∧ AOk d x.2 ∧ belowG d (d.length - x.1) x.1 x.2 = belowG d d.length 0 [s]}) (fun x => ⟨[(0, .p T22 d), (5, .sr 15 T9 0 x.1.2.length), (6, .p (.int .i64) (x.1.1 : Int))], [(15, .arr 9 T9 x.1.2)]⟩) (fun x => d.length - x.1.1) ⟨(0, [s]), by simp, hA0, rfl⟩ (ent_match [(15, .nm 15)] rfl rfl ?_ ?_) (fun x => ?_)
  ·first | exact eN | refine eM ?_
  ·first | exact eN | refine eM ?_
  ·obtain ⟨⟨i, o⟩, hi, hA, hg⟩ := x
   simp only at hi hA hg
   have hol := hA.len
   simp only
   repeat' (first | exact trivial | refine eS rfl ?_ | refine ev_out_inv ?_ | refine rX [0, 1, 4, 5, 6, 7, 8, 9, 13, 19, 25, 47, 59] hc ?_ ?_ | (refine rC (fun hcond => ?_) (fun hcond => ?_) <;> try (cases hcond; done)))
   ·have hi2 : i < o.length := by exact eV
    have hnext : belowG d (d.length - (i + 1)) (i + 1) (d.foldl (addB (o.getD i ByteArray.empty)) o) = belowG d d.length 0 [s] := by
     rw [← hg]
     obtain ⟨m, hm⟩ : ∃ m, d.length - i = m + 1 := ⟨d.length - i - 1, by omega⟩
     have hm2 : d.length - (i + 1) = m := by omega
     rw [hm, hm2]
     show _ = if i < o.length then belowG d m (i + 1) (d.foldl (addB (o.getD i ByteArray.empty)) o) else o
     rw [if_pos hi2]
    refine ev_loop (ι := {k : Nat // k ≤ d.length}) (fun k => ⟨[(0, .p T22 d), (5, .sr 15 T9 0 ((d.take k.1).foldl (addB (o.getD i ByteArray.empty)) o).length), (6, .p (.int .i64) (i : Int)), (7, .p (.int .i64) (k.1 : Int))], [(15, .arr 9 T9 ((d.take k.1).foldl (addB (o.getD i ByteArray.empty)) o))]⟩) (fun k => d.length - k.1) ⟨0, Nat.zero_le _⟩ (ent_match [(15, .nm 15)] rfl rfl ?_ ?_) (fun k => ?_)
    ·first | exact eN | refine eM ?_
     rfl
    ·first | exact eN | refine eM ?_
     rfl
    ·obtain ⟨k, hk⟩ := k
     have hok := addBs_ok (o.getD i ByteArray.empty) (l := d.take k) (o := o) (fun x hx => List.mem_of_mem_take hx) hA
     have hok2 := hok.1.len
     have hstep := fun h : k < d.length => fold_tk (addB (o.getD i ByteArray.empty)) d d0 o h
     have hpre : ((d.take k).foldl (addB (o.getD i ByteArray.empty)) o).getD i ByteArray.empty = o.getD i ByteArray.empty := addBs_get _ hi2
     simp only
     generalize ho2 : (d.take k).foldl (addB (o.getD i ByteArray.empty)) o = o2 at *
     repeat' (first | exact trivial | refine eS rfl ?_ | refine ev_out_inv ?_ | refine rX [0, 1, 4, 5, 6, 7, 8, 9, 13, 19, 25, 47, 59] hc ?_ ?_ | (refine rC (fun hcond => ?_) (fun hcond => ?_) <;> try (cases hcond; done)))
     ·have hl := hok.2
      refine ⟨hcond, ?_, fun _ => hcond⟩
      dsimp only [Ty.den] at *
      omega
     ·refine ⟨by assumption, ?_⟩
      simp only [maxN]
      dsimp only [Ty.den] at *
      omega
     ·exact eV
     ·have hk2 : k < d.length := by exact eV
      have e := hstep hk2
      rw [hpre] at hcond
      have e2 : addB (o.getD i ByteArray.empty) o2 (d.getD k d0) = o2 ++ [(d.getD k d0).1] := by
       unfold addB; rw [if_pos (by rw [Bool.and_eq_true, Bool.not_eq_true']; exact hcond)]
      rw [e2] at e
      refine ⟨⟨k + 1, by omega⟩, by simp only; omega, ent_match [(15, .nm 15)] rfl rfl ?_ ?_⟩
      ·simp only [e]
       first | exact eN | refine eM ?_
      ·simp only [e]
       first | exact eN | refine eM ?_
     ·exact eV
     ·have hk2 : k < d.length := by exact eV
      have e := hstep hk2
      rw [hpre] at hcond
      have e2 : addB (o.getD i ByteArray.empty) o2 (d.getD k d0) = o2 := by
       unfold addB
       rw [if_neg]
       rw [Bool.and_eq_true, Bool.not_eq_true']
       rintro ⟨h1, h2⟩
       rw [hcond h1] at h2
       cases h2
      rw [e2] at e
      refine ⟨⟨k + 1, by omega⟩, by simp only; omega, ent_match [(15, .nm 15)] rfl rfl ?_ ?_⟩
      ·simp only [e]
       first | exact eN | refine eM ?_
      ·simp only [e]
       first | exact eN | refine eM ?_
     ·exact eV
     ·have hk2 : d.take k = d := List.take_of_length_le (by exact eV)
      rw [hk2] at ho2
      rw [ho2] at hnext
      have hok1 := hok.1
      have hokl := hok.2
      refine ⟨⟨(i + 1, o2), by simp only; omega, hok1, hnext⟩, by simp only; omega, ent_match [(15, .nm 15)] rfl rfl ?_ ?_⟩
      ·first | exact eN | refine eM ?_
      ·first | exact eN | refine eM ?_
   ·have hoe : o = belowG d d.length 0 [s] := by
     rw [← hg]
     cases hm : d.length - i with
     | zero => rfl
     | succ m =>
      show _ = if i < o.length then _ else o
      rw [if_neg (by exact eV)]
    rw [← hoe] at h1
    refine ev_loop (ι := {j : Nat // j ≤ o.length}) (fun j => ⟨[(0, .p T22 d), (5, .sr 15 T9 0 o.length), (8, .p T151 ((o.take j.1).foldl putF [])), (9, .p (.int .i64) (j.1 : Int))], [(15, .arr 9 T9 o)]⟩) (fun j => o.length - j.1) ⟨0, Nat.zero_le _⟩ (ent_match [(15, .nm 15)] rfl rfl ?_ ?_) (fun j => ?_)
    ·first | exact eN | refine eM ?_
    ·first | exact eN | refine eM ?_
     rfl
    ·obtain ⟨j, hj⟩ := j
     have hsj := fun h : j < o.length => fold_tk putF o ByteArray.empty [] h
     simp only
     repeat' (first | exact trivial | refine eS rfl ?_ | refine ev_out_inv ?_ | refine rX [0, 1, 4, 5, 6, 7, 8, 9, 13, 19, 25, 47, 59] hc ?_ ?_ | (refine rC (fun hcond => ?_) (fun hcond => ?_) <;> try (cases hcond; done)))
     ·refine ⟨hcond, ?_⟩
      have := sortL_len (o.take j)
      have h3 := List.length_take_le j o
      unfold sortL at this
      dsimp only [Ty.den] at *
      omega
     ·exact eV
     ·have hj2 : j < o.length := by exact eV
      have e := hsj hj2
      refine ⟨⟨j + 1, by omega⟩, by simp only; omega, ent_match [(15, .nm 15)] rfl rfl ?_ ?_⟩
      ·first | exact eN | refine eM ?_
      ·simp only [e]
       first | exact eN | refine eM ?_
     ·have hj2 : o.take j = o := List.take_of_length_le (by exact eV)
      rw [hj2]
      exact ev_fin hc [.tmp 4] rfl (.inl rfl) (by simp) (by rw [h1]; unfold sortL; first | exact eR | refine eRM ?_)
end
/- Functions of grammarlabref03: declared, Maximal. -/
section
attribute [local go_sem] dfindS putS aboveS amongS
def declA (d : List DeclD) (o : List ByteArray) (x : ByteArray) : List ByteArray := if 0 ≤ dfindF d x then putF o x else o
def declaredF (d : List DeclD) (l : List ByteArray) : List ByteArray := l.foldl (declA d) []
theorem declaredF_len (d : List DeclD) (l : List ByteArray) : (declaredF d l).length ≤ l.length := by
 have key : ∀ (l o : List ByteArray), (l.foldl (declA d) o).length ≤ o.length + l.length := by
  intro l
  induction l with
  | nil => intro o; simp
  | cons x l ih =>
   intro o
   have h1 := ih (declA d o x)
   have h2 : (declA d o x).length ≤ o.length + 1 := by
    unfold declA
    split
    ·exact putF_len o x
    ·omega
   simp only [List.foldl_cons, List.length_cons]
   omega
 have := key l []
 simpa [declaredF] using this
def declaredS : Spec := { ins := [T22, T151], pre := fun (_, l, _) => List.length l ≤ 100000, out := fun (d, l, _) => [.p T151 (declaredF d l)] }
attribute [local go_sem] declaredS
theorem declared_ok : FnOk Tryz.prog 208 declaredS := by
 refine fn_ok Tryz.func208 (by kernel_rfl) rfl Tryz.ntmps208 (by decide) (by kernel_rfl) (tyTab_ok [(206, dfindS), (174, putS)]) (fns_cons dfind_ok (fns_cons put_ok fns_nil)) ?_
 rintro w0 O0 ⟨d, l, u⟩ hc - hl
 have hl : l.length ≤ 100000 := hl
 simp only [declaredS, entEnv]
 repeat' (first | exact trivial | refine eS rfl ?_ | refine ev_out_inv ?_ | refine rX [0, 1, 4, 5, 6, 10, 19] hc ?_ ?_ | (refine rC (fun hcond => ?_) (fun hcond => ?_) <;> try (cases hcond; done)))
 refine ev_loop (ι := {k : Nat // k ≤ l.length}) (fun k => ⟨[(0, .p T22 d), (1, .p T151 l), (5, .p T151 (declaredF d (l.take k.1))), (6, .p (.int .i64) (k.1 : Int))], []⟩) (fun k => l.length - k.1) ⟨0, Nat.zero_le _⟩ (ent_match [] rfl rfl ?_ ?_) (fun k => ?_)
 ·first | exact eN | refine eM ?_
 ·first | exact eN | refine eM ?_
  rfl
 ·obtain ⟨k, hk⟩ := k
  have hn := declaredF_len d (l.take k)
  have hn2 := List.length_take_le k l
  have hs := fun h : k < l.length => fold_tk (declA d) l ByteArray.empty [] h
  simp only
  repeat' (first | exact trivial | refine eS rfl ?_ | refine ev_out_inv ?_ | refine rX [0, 1, 4, 5, 6, 10, 19] hc ?_ ?_ | (refine rC (fun hcond => ?_) (fun hcond => ?_) <;> try (cases hcond; done)))
  ·exact hcond
  ·exact ⟨by assumption, by omega⟩
  ·exact eV
  ·have hk2 : k < l.length := by exact eV
   have e : declaredF d (l.take (k + 1)) = declA d (declaredF d (l.take k)) (l.getD k ByteArray.empty) := hs hk2
   unfold declA at e
   rw [if_pos hcond] at e
   refine ⟨⟨k + 1, by omega⟩, by simp only; omega, ent_match [] rfl rfl ?_ ?_⟩
   ·first | exact eN | refine eM ?_
   ·simp only [e]
    first | exact eN | refine eM ?_
  ·exact eV
  ·have hk2 : k < l.length := by exact eV
   have e : declaredF d (l.take (k + 1)) = declA d (declaredF d (l.take k)) (l.getD k ByteArray.empty) := hs hk2
   unfold declA at e
   rw [if_neg (Int.not_le.2 hcond)] at e
   refine ⟨⟨k + 1, by omega⟩, by simp only; omega, ent_match [] rfl rfl ?_ ?_⟩
   ·first | exact eN | refine eM ?_
   ·simp only [e]
    first | exact eN | refine eM ?_
  ·have hk2 : l.take k = l := List.take_of_length_le (by exact eV)
   rw [hk2]
   exact ev_fin hc [.tmp 4] rfl (.inl rfl) (by simp) (by first | exact eR | refine eRM ?_)
def freeF (d : List DeclD) (all : List ByteArray) (i : Nat) (k : Nat) : Bool := (k : Int) == (i : Int) || !amongF (aboveF d (all.getD i ByteArray.empty)) (all.getD k ByteArray.empty)
def freeA (d : List DeclD) (all : List ByteArray) (i n : Nat) : Bool := (List.range n).all (freeF d all i)
def maxG (d : List DeclD) (all : List ByteArray) (n : Nat) : List ByteArray := ((List.range n).filter fun i => freeA d all i all.length).map fun i => all.getD i ByteArray.empty
def maximalF (d : List DeclD) (l : List ByteArray) : List ByteArray := maxG d (declaredF d l) (declaredF d l).length
theorem maxG_succ (d : List DeclD) (all : List ByteArray) (n : Nat) : maxG d all (n + 1) = maxG d all n ++ if freeA d all n all.length = true then [all.getD n ByteArray.empty] else [] := by
 unfold maxG
 rw [List.range_succ, List.filter_append, List.map_append]
 congr 1
 rw [List.filter_cons, List.filter_nil]
 split <;> rfl
theorem maxG_len (d : List DeclD) (all : List ByteArray) (n : Nat) : (maxG d all n).length ≤ n := by
 unfold maxG
 rw [List.length_map]
 exact Nat.le_trans (List.length_filter_le _ _) (by simp)
theorem freeA_succ (d : List DeclD) (all : List ByteArray) (i n : Nat) : freeA d all i (n + 1) = (freeA d all i n && freeF d all i n) := by
 unfold freeA
 rw [List.range_succ, List.all_append]
 simp
def maximalS : Spec := { ins := [T22, T151], pre := fun (d, l, _) => SupOk d ∧ List.length d ≤ 256 ∧ List.length l ≤ 100000, out := fun (d, l, _) => [.p T151 (maximalF d l)] }
attribute [local go_sem] maximalS
theorem maximal_ok : FnOk Tryz.prog 188 maximalS := by
 refine fn_ok Tryz.func188 (by kernel_rfl) rfl Tryz.ntmps188 (by decide) (by kernel_rfl) (tyTab_ok [(208, declaredS), (209, aboveS), (183, amongS)]) (fns_cons declared_ok (fns_cons above_ok (fns_cons among_ok fns_nil))) ?_
 rintro w0 O0 ⟨d, l, u⟩ hc - ⟨hsup, hd, hl⟩
 have hd : d.length ≤ 256 := hd
 have hl : l.length ≤ 100000 := hl
 have hml : maximalF d l = maxG d (declaredF d l) (declaredF d l).length := rfl
 have hal := declaredF_len d l
 simp only [maximalS, entEnv]
 repeat' (first | exact trivial | refine eS rfl ?_ | refine ev_out_inv ?_ | refine rX [0, 1, 4, 5, 6, 7, 8, 9, 10, 17, 29, 47] hc ?_ ?_ | (refine rC (fun hcond => ?_) (fun hcond => ?_) <;> try (cases hcond; done)))
 ·exact hl
 ·rw [hml]
  generalize declaredF d l = all at *
  refine ev_loop (ι := {i : Nat // i ≤ all.length}) (fun i => ⟨[(0, .p T22 d), (5, .sr 54 T9 0 (maxG d all i.1).length), (6, .p T151 all), (7, .p (.int .i64) (i.1 : Int))], [(54, .arr 9 T9 (maxG d all i.1))]⟩) (fun i => all.length - i.1) ⟨0, Nat.zero_le _⟩ (ent_match [(54, .nil)] rfl rfl ?_ ?_) (fun i => ?_)
  ·first | exact eN | refine eM ?_
   rfl
  ·first | exact eN | refine eM ?_
   rfl
  ·obtain ⟨i, hi⟩ := i
   have hgl := maxG_len d all i
   have hgs := maxG_succ d all i
   simp only
   repeat' (first | exact trivial | refine eS rfl ?_ | refine ev_out_inv ?_ | refine rX [0, 1, 4, 5, 6, 7, 8, 9, 10, 17, 29, 47] hc ?_ ?_ | (refine rC (fun hcond => ?_) (fun hcond => ?_) <;> try (cases hcond; done)))
   ·exact ⟨hcond, hsup, hd⟩
   ·have hi2 : i < all.length := by exact eV
    refine ev_loop (ι := {k : Nat // k ≤ all.length}) (fun k => ⟨[(0, .p T22 d), (5, .sr 54 T9 0 (maxG d all i).length), (6, .p T151 all), (7, .p (.int .i64) (i : Int)), (8, .p T151 (aboveF d (all.getD i ByteArray.empty))), (9, .p .bool (freeA d all i k.1)), (10, .p (.int .i64) (k.1 : Int))], [(54, .arr 9 T9 (maxG d all i))]⟩) (fun k => all.length - k.1) ⟨0, Nat.zero_le _⟩ (ent_match [(54, .nm 54)] rfl rfl ?_ ?_) (fun k => ?_)
    ·first | exact eN | refine eM ?_
    ·first | exact eN | refine eM ?_
     rfl
    ·obtain ⟨k, hk⟩ := k
     have hfs := freeA_succ d all i k
     simp only
     repeat' (first | exact trivial | refine eS rfl ?_ | refine ev_out_inv ?_ | refine rX [0, 1, 4, 5, 6, 7, 8, 9, 10, 17, 29, 47] hc ?_ ?_ | (refine rC (fun hcond => ?_) (fun hcond => ?_) <;> try (cases hcond; done)))
     ·exact fun _ => hcond
     ·exact eV
     ·have hk2 : k < all.length := by exact eV
      refine ⟨⟨k + 1, by omega⟩, by simp only; omega, ent_match [(54, .nm 54)] rfl rfl ?_ ?_⟩
      ·first | exact eN | refine eM ?_
      ·simp only [hfs]
       unfold freeF
       first | exact eN | refine eM ?_
     ·refine ⟨by assumption, ?_⟩
      simp only [maxN]
      omega
     ·exact eV
     ·have hk2 : k = all.length := by exact eV
      subst hk2
      rw [hcond, if_pos rfl] at hgs
      refine ⟨⟨i + 1, by omega⟩, by simp only; omega, ent_match [(54, .nm 54)] rfl rfl ?_ ?_⟩
      ·simp only [hgs]
       first | exact eN | refine eM ?_
      ·simp only [hgs]
       first | exact eN | refine eM ?_
     ·exact eV
     ·have hk2 : k = all.length := by exact eV
      subst hk2
      rw [hcond, if_neg (by simp), List.append_nil] at hgs
      refine ⟨⟨i + 1, by omega⟩, by simp only; omega, ent_match [(54, .nm 54)] rfl rfl ?_ ?_⟩
      ·simp only [hgs]
       first | exact eN | refine eM ?_
      ·simp only [hgs]
       first | exact eN | refine eM ?_
   ·have hi2 : i = all.length := by exact eV
    subst hi2
    refine frzE [54] ?_
    exact ev_fin hc [.tmp 4] rfl (.inl rfl) (by simp) (by first | exact eR | refine eRM ?_)
end
/- Functions of grammarlabref02: Of. -/
section
attribute [local go_sem] normalS
def ofA (b : List Int) (x : Int) : List Int := b.set (x.tdiv 64).toNat (bitsV .or .u64 (b.getD (x.tdiv 64).toNat 0) (shlV .u64 1 (x.tmod 64)))
def ofL (l : List Int) : List Int := l.foldl ofA (List.replicate 64 0)
def okB (x : Int) : Bool := !(decide (x < 0) || decide (4095 < x))
def ofF (l : List Int) : List Int × Int := if l.all okB = true then (normalF (ofL l), 0) else ([], 2)
theorem ofL_len (l : List Int) : (ofL l).length = 64 := by
 have key : ∀ (l b : List Int), (l.foldl ofA b).length = b.length := by
  intro l
  induction l with
  | nil => intro b; rfl
  | cons x l ih =>
   intro b
   rw [List.foldl_cons, ih]
   simp [ofA]
 unfold ofL
 rw [key]
 simp
def ofS : Spec := { ins := [T40], pre := fun _ => True, out := fun (l, _) => [.p T142 (ofF l).1, .p T79 (ofF l).2] }
theorem of_ok : FnOk Tryz.prog 184 ofS := by
 refine fn_ok Tryz.func184 (by kernel_rfl) rfl Tryz.ntmps184 (by decide) (by kernel_rfl) (tyTab_ok [(176, normalS)]) (fns_cons normal_ok fns_nil) ?_
 rintro w0 O0 ⟨l, u⟩ hc ⟨⟨hl, -⟩, -⟩ -
 simp only [maxN] at hl
 simp only [ofS, entEnv]
 repeat' (first | exact trivial | refine eS rfl ?_ | refine ev_out_inv ?_ | refine rX [0, 2, 3, 4, 5, 10, 24] hc ?_ ?_ | (refine rC (fun hcond => ?_) (fun hcond => ?_) <;> try (cases hcond; done)))
 ·simp only [maxN]; omega
 ·refine ev_loop (ι := {k : Nat // k ≤ l.length ∧ (l.take k).all okB = true}) (fun k => ⟨[(0, .p T40 l), (4, .sr 6 T209 0 (ofL (l.take k.1)).length), (5, .p (.int .i64) (k.1 : Int))], [(6, .arr 209 T209 (ofL (l.take k.1)))]⟩) (fun k => l.length - k.1) ⟨0, Nat.zero_le _, rfl⟩ (ent_match [(6, .nm 6)] rfl rfl ?_ ?_) (fun k => ?_)
  ·first | exact eN | refine eM ?_
   rfl
  ·first | exact eN | refine eM ?_
   rfl
  ·obtain ⟨k, hk, hf⟩ := k
   have hlen := ofL_len (l.take k)
   have hs : ∀ h : k < l.length, ofL (l.take (k + 1)) = ofA (ofL (l.take k)) (l.getD k 0) := fun h => fold_tk ofA l 0 _ h
   simp only
   repeat' (first | exact trivial | refine eS rfl ?_ | refine ev_out_inv ?_ | refine rX [0, 2, 3, 4, 5, 10, 24] hc ?_ ?_ | (refine rC (fun hcond => ?_) (fun hcond => ?_) <;> try (cases hcond; done)))
   ·exact ⟨hcond, fun _ => hcond⟩
   ·have hk2 : k < l.length := by exact eV
    have h1 : ofF l = ([], 2) := by
     unfold ofF
     rw [if_neg]
     intro h
     have := List.all_eq_true.1 h _ (mem_of_take_succ l 0 hk2)
     unfold okB at this
     rw [Bool.not_eq_true', Bool.or_eq_false_iff, decide_eq_false_iff_not, decide_eq_false_iff_not] at this
     rcases hcond with h | h
     ·exact this.1 h
     ·exact this.2 h
    exact ev_fin hc [.tmp 2, .tmp 3] rfl (.inl rfl) (by simp) (by rw [h1]; first | exact eR | refine eRM ?_)
   ·obtain ⟨h0, h1⟩ := hcond
    have e1 : Int.tdiv (l.getD k 0) 64 = l.getD k 0 / 64 := Int.tdiv_eq_ediv_of_nonneg h0
    have e2 : Int.tmod (l.getD k 0) 64 = l.getD k 0 % 64 := Int.tmod_eq_emod_of_nonneg h0
    rw [e1, e2, hlen]
    refine ⟨?_, ⟨by decide, ?_, ?_⟩, ?_, ⟨by decide, ?_, ?_⟩, ⟨?_, ?_⟩, ?_, ⟨by decide, ?_, ?_⟩, ⟨?_, ?_⟩, ?_, ?_, ?_⟩ <;> exact eV
   ·exact eV
   ·have hk2 : k < l.length := by exact eV
    have e := hs hk2
    refine ⟨⟨k + 1, by omega, ?_⟩, by simp only; omega, ent_match [(6, .nm 6)] rfl rfl ?_ ?_⟩
    ·rw [all_take1 l 0 _ hk2, hf, Bool.true_and]
     unfold okB
     rw [Bool.not_eq_true', Bool.or_eq_false_iff, decide_eq_false_iff_not, decide_eq_false_iff_not]
     exact ⟨Int.not_lt.2 hcond.1, Int.not_lt.2 hcond.2⟩
    ·simp only [e]
     first | exact eN | refine eM ?_
     rfl
    ·simp only [e]
     first | exact eN | refine eM ?_
     rw [← e, ofL_len, ofL_len]
   ·have hk2 : l.take k = l := List.take_of_length_le (by exact eV)
    rw [hk2] at hf ⊢
    have h1 : ofF l = (normalF (ofL l), 0) := by unfold ofF; rw [if_pos hf]
    have hlen2 := ofL_len l
    refine frzE [6] ?_
    repeat' (first | exact trivial | refine eS rfl ?_ | refine ev_out_inv ?_ | refine rX [0, 2, 3, 4, 5, 10, 24] hc ?_ ?_ | (refine rC (fun hcond => ?_) (fun hcond => ?_) <;> try (cases hcond; done)))
    ·rw [hlen2]; decide
    ·exact ev_fin hc [.tmp 2, .tmp 3] rfl (.inl rfl) (by simp) (by rw [h1]; first | exact eR | refine eRM ?_)
end
/- Functions of grammarlabref04: in, Subsumes. -/
section
attribute [local go_sem] sameS subsetS
def inBF (l : List (List Int)) (b : List Int) : Bool := l.any fun x => sameF x b
def inBS : Spec := { ins := [T191, T142], pre := fun _ => True, out := fun (l, b, _) => [.p .bool (inBF l b)], lend := true }
theorem inB_ok : FnOk Tryz.prog 185 inBS := by
 refine fn_ok Tryz.func185 (by kernel_rfl) rfl Tryz.ntmps185 (by decide) (by kernel_rfl) (tyTab_ok [(177, sameS)]) (fns_cons same_ok fns_nil) ?_
 rintro w0 O0 ⟨l, n, u⟩ hc ⟨⟨hl, -⟩, -⟩ -
 simp only [maxN] at hl
 simp only [inBS, entEnv]
 repeat' (first | exact trivial | refine eS rfl ?_ | refine ev_out_inv ?_ | refine rX [0, 1, 4, 5, 9, 17] hc ?_ ?_ | (refine rC (fun hcond => ?_) (fun hcond => ?_) <;> try (cases hcond; done)))
 refine ev_loop (ι := {k : Nat // k ≤ l.length ∧ (l.take k).any (fun x => sameF x n) = false}) (fun k => ⟨[(0, .p T191 l), (1, .p T142 n), (5, .p (.int .i64) (k.1 : Int))], []⟩) (fun k => l.length - k.1) ⟨0, by simp⟩ (ent_match [] rfl rfl ?_ ?_) (fun k => ?_)
 ·first | exact eN | refine eM ?_
 ·first | exact eN | refine eM ?_
 ·obtain ⟨k, hk, hany⟩ := k
  repeat' (first | exact trivial | refine eS rfl ?_ | refine ev_out_inv ?_ | refine rX [0, 1, 4, 5, 9, 17] hc ?_ ?_ | (refine rC (fun hcond => ?_) (fun hcond => ?_) <;> try (cases hcond; done)))
  ·exact eV
  ·have hkl : k < l.length := by exact eV
   have h1 : inBF l n = true := any_of_get2 l [] _ hkl hcond
   exact ev_fin hc [.tmp 4] rfl (.inl rfl) (by simp) (by rw [h1]; first | exact eR | refine eRM ?_)
  ·exact eV
  ·have hkl : k < l.length := by exact eV
   refine ⟨⟨k + 1, by exact eV, ?_⟩, by simp only; exact eV, ent_match [] rfl rfl ?_ ?_⟩
   ·rw [any_take2 l [] _ hkl, hany]; exact hcond
   ·first | exact eN | refine eM ?_
   ·first | exact eN | refine eM ?_
  ·have hk : l.take k = l := List.take_of_length_le (by exact eV)
   rw [hk] at hany
   have h1 : inBF l n = false := hany
   exact ev_fin hc [.tmp 4] rfl (.inl rfl) (by simp) (by rw [h1]; first | exact eR | refine eRM ?_)
abbrev CodedD := ByteArray × List Int
abbrev c0 : CodedD := (ByteArray.empty, [])
def subsF (l : List CodedD) (i j : Int) : Bool := subsetF (l.getD j.toNat c0).2 (l.getD i.toNat c0).2
def subsS : Spec := { ins := [T138, T3, T3], pre := fun (l, i, j, _) => ((0 : Int) ≤ i ∧ i < (List.length l : Int)) ∧ ((0 : Int) ≤ j ∧ j < (List.length l : Int)) ∧ (∀ x ∈ (l : List CodedD), x.2.length ≤ 100000), out := fun (l, i, j, _) => [.p .bool (subsF l i j)], lend := true }
theorem subs_ok : FnOk Tryz.prog 139 subsS := by
 refine fn_ok Tryz.func139 (by kernel_rfl) rfl Tryz.ntmps139 (by decide) (by kernel_rfl) (tyTab_ok [(190, subsetS)]) (fns_cons subset_ok fns_nil) ?_
 rintro w0 O0 ⟨l, i, j, u⟩ hc - ⟨hi, hj, hx⟩
 simp only [subsS, entEnv]
 repeat' (first | exact trivial | refine eS rfl ?_ | refine ev_out_inv ?_ | refine rX [0, 1, 2, 6] hc ?_ ?_ | (refine rC (fun hcond => ?_) (fun hcond => ?_) <;> try (cases hcond; done)))
 ·exact ⟨hj, hi, hx _ (mem_of_take_succ (l : List CodedD) c0 (by exact eV))⟩
 ·exact ev_fin hc [.tmp 6] rfl (.inl rfl) (by simp) (by unfold subsF; first | exact eR | refine eRM ?_)
end
/- Functions of grammarlabref05: number. -/
section
attribute [local go_sem] sameS
def numG (s : ByteArray) : Nat → List CodedD → Int
 | _, [] => -1
 | k, x :: l => if strEq x.1 s = true then (k : Int) else numG s (k + 1) l
def numberF (l : List CodedD) (s : ByteArray) : Int := numG s 0 l
theorem numG_step (s : ByteArray) (l : List CodedD) {k : Nat} (h : k < l.length) : numG s k (l.drop k) = if strEq (l.getD k c0).1 s = true then (k : Int) else numG s (k + 1) (l.drop (k + 1)) := by
 rw [List.drop_eq_getElem_cons h]
 have e : l.getD k c0 = l[k] := by simp [List.getD_eq_getElem?_getD, h]
 rw [e]
 rfl
def numberS : Spec := { ins := [T138, T9], pre := fun _ => True, out := fun (l, s, _) => [.p T3 (numberF l s)], lend := true }
theorem number_ok : FnOk Tryz.prog 141 numberS := by
 refine fn_ok Tryz.func141 (by kernel_rfl) rfl Tryz.ntmps141 (by decide) (by kernel_rfl) (tyTab_ok []) fns_nil ?_
 rintro w0 O0 ⟨l, s, u⟩ hc ⟨⟨hl, -⟩, -⟩ -
 simp only [maxN] at hl
 simp only [numberS, entEnv]
 repeat' (first | exact trivial | refine eS rfl ?_ | refine ev_out_inv ?_ | refine rX [0, 1, 4, 5, 9, 18] hc ?_ ?_ | (refine rC (fun hcond => ?_) (fun hcond => ?_) <;> try (cases hcond; done)))
 refine ev_loop (ι := {k : Nat // k ≤ l.length ∧ numG s k (l.drop k) = numberF l s}) (fun k => ⟨[(0, .p T138 l), (1, .p T9 s), (5, .p (.int .i64) (k.1 : Int))], []⟩) (fun k => l.length - k.1) ⟨0, Nat.zero_le _, rfl⟩ (ent_match [] rfl rfl ?_ ?_) (fun k => ?_)
 ·first | exact eN | refine eM ?_
 ·first | exact eN | refine eM ?_
 ·obtain ⟨k, hk, hf⟩ := k
  simp only
  repeat' (first | exact trivial | refine eS rfl ?_ | refine ev_out_inv ?_ | refine rX [0, 1, 4, 5, 9, 18] hc ?_ ?_ | (refine rC (fun hcond => ?_) (fun hcond => ?_) <;> try (cases hcond; done)))
  ·exact hcond
  ·have hk2 : k < l.length := by exact eV
   rw [numG_step s l hk2, if_pos hcond] at hf
   exact ev_fin hc [.tmp 4] rfl (.inl rfl) (by simp) (by rw [← hf]; first | exact eR | refine eRM ?_)
  ·exact eV
  ·have hk2 : k < l.length := by exact eV
   rw [numG_step s l hk2, if_neg (by rw [hcond]; simp)] at hf
   refine ⟨⟨k + 1, by omega, hf⟩, by simp only; omega, ent_match [] rfl rfl ?_ ?_⟩
   ·first | exact eN | refine eM ?_
   ·first | exact eN | refine eM ?_
  ·have hk2 : l.drop k = [] := List.drop_eq_nil_of_le (by exact eV)
   rw [hk2] at hf
   exact ev_fin hc [.tmp 4] rfl (.inl rfl) (by simp) (by rw [← hf]; first | exact eR | refine eRM ?_; rfl)
end
/- Functions of grammarlabref04: Find. -/
section
attribute [local go_sem] sameS normalS
def codeG (s : List Int) : Nat → List CodedD → Int
 | _, [] => -1
 | k, x :: l => if sameF x.2 s = true then (k : Int) else codeG s (k + 1) l
def findCF (l : List CodedD) (b : List Int) : Int := codeG (normalF b) 0 l
theorem codeG_step (s : List Int) (l : List CodedD) {k : Nat} (h : k < l.length) : codeG s k (l.drop k) = if sameF (l.getD k c0).2 s = true then (k : Int) else codeG s (k + 1) (l.drop (k + 1)) := by
 rw [List.drop_eq_getElem_cons h]
 have e : l.getD k c0 = l[k] := by simp [List.getD_eq_getElem?_getD, h]
 rw [e]
 rfl
def findCS : Spec := { ins := [T138, T142], pre := fun (_, b, _) => List.length b ≤ 100000, out := fun (l, b, _) => [.p T3 (findCF l b)], lend := true }
theorem findC_ok : FnOk Tryz.prog 132 findCS := by
 refine fn_ok Tryz.func132 (by kernel_rfl) rfl Tryz.ntmps132 (by decide) (by kernel_rfl) (tyTab_ok [(176, normalS), (177, sameS)]) (fns_cons normal_ok (fns_cons same_ok fns_nil)) ?_
 rintro w0 O0 ⟨l, b, u⟩ hc ⟨⟨hl, -⟩, -⟩ hb
 simp only [maxN] at hl
 simp only [findCS, entEnv]
 repeat' (first | exact trivial | refine eS rfl ?_ | refine ev_out_inv ?_ | refine rX [0, 1, 4, 5, 6, 12, 21] hc ?_ ?_ | (refine rC (fun hcond => ?_) (fun hcond => ?_) <;> try (cases hcond; done)))
 ·exact hb
 ·have hcg : findCF l b = codeG (normalF b) 0 l := rfl
  rw [hcg]
  generalize normalF b = s at *
  refine ev_loop (ι := {k : Nat // k ≤ l.length ∧ codeG s k (l.drop k) = codeG s 0 l}) (fun k => ⟨[(0, .p T138 l), (5, .p T142 s), (6, .p (.int .i64) (k.1 : Int))], []⟩) (fun k => l.length - k.1) ⟨0, Nat.zero_le _, rfl⟩ (ent_match [] rfl rfl ?_ ?_) (fun k => ?_)
  ·first | exact eN | refine eM ?_
  ·first | exact eN | refine eM ?_
  ·obtain ⟨k, hk, hf⟩ := k
   simp only
   repeat' (first | exact trivial | refine eS rfl ?_ | refine ev_out_inv ?_ | refine rX [0, 1, 4, 5, 6, 12, 21] hc ?_ ?_ | (refine rC (fun hcond => ?_) (fun hcond => ?_) <;> try (cases hcond; done)))
   ·exact hcond
   ·have hk2 : k < l.length := by exact eV
    rw [codeG_step s l hk2, if_pos hcond] at hf
    exact ev_fin hc [.tmp 4] rfl (.inl rfl) (by simp) (by rw [← hf]; first | exact eR | refine eRM ?_)
   ·exact eV
   ·have hk2 : k < l.length := by exact eV
    rw [codeG_step s l hk2, if_neg (by rw [hcond]; simp)] at hf
    refine ⟨⟨k + 1, by omega, hf⟩, by simp only; omega, ent_match [] rfl rfl ?_ ?_⟩
    ·first | exact eN | refine eM ?_
    ·first | exact eN | refine eM ?_
   ·have hk2 : l.drop k = [] := List.drop_eq_nil_of_le (by exact eV)
    rw [hk2] at hf
    exact ev_fin hc [.tmp 4] rfl (.inl rfl) (by simp) (by rw [← hf]; first | exact eR | refine eRM ?_; rfl)
end
/- Functions of grammarlabref05: value. -/
section
attribute [local go_sem] sameS
def valG (s : ByteArray) : List (ByteArray × ByteArray) → ByteArray × Bool
 | [] => (ByteArray.empty, false)
 | x :: l => if strEq x.1 s = true then (x.2, true) else valG s l
def valueF (x : DeclD) (s : ByteArray) : ByteArray × Bool := valG s x.2.2
theorem valG_step (s : ByteArray) (l : List (ByteArray × ByteArray)) {k : Nat} (h : k < l.length) : valG s (l.drop k) = if strEq (l.getD k (ByteArray.empty, ByteArray.empty)).1 s = true then ((l.getD k (ByteArray.empty, ByteArray.empty)).2, true) else valG s (l.drop (k + 1)) := by
 rw [List.drop_eq_getElem_cons h]
 have e : l.getD k (ByteArray.empty, ByteArray.empty) = l[k] := by simp [List.getD_eq_getElem?_getD, h]
 rw [e]
 rfl
def valueS : Spec := { ins := [T154, T9], pre := fun _ => True, out := fun (x, s, _) => [.p T9 (valueF x s).1, .p .bool (valueF x s).2], lend := true }
theorem value_ok : FnOk Tryz.prog 175 valueS := by
 refine fn_ok Tryz.func175 (by kernel_rfl) rfl Tryz.ntmps175 (by decide) (by kernel_rfl) (tyTab_ok []) fns_nil ?_
 rintro w0 O0 ⟨⟨nm, sup, fe⟩, s, u⟩ hc ⟨⟨-, -, hfe, -⟩, -⟩ -
 simp only [maxN] at hfe
 simp only [valueS, entEnv]
 repeat' (first | exact trivial | refine eS rfl ?_ | refine ev_out_inv ?_ | refine rX [0, 1, 2, 4, 5, 6, 11, 21] hc ?_ ?_ | (refine rC (fun hcond => ?_) (fun hcond => ?_) <;> try (cases hcond; done)))
 have hz : ({ data := #[] } : ByteArray).size ≤ maxN := by decide
 rw [if_pos hz]
 refine ev_loop (ι := {k : Nat // k ≤ fe.length ∧ valG s (fe.drop k) = valueF (nm, sup, fe) s}) (fun k => ⟨[(1, .p T9 s), (2, .bp 2 [] 0), (6, .p (.int .i64) (k.1 : Int))], [(2, .box 154 true [.p T9 nm, .p T151 sup, .p T152 fe])]⟩) (fun k => fe.length - k.1) ⟨0, Nat.zero_le _, rfl⟩ (ent_match [(2, .nm 2)] rfl rfl ?_ ?_) (fun k => ?_)
 ·first | exact eN | refine eM ?_
 ·first | exact eN | refine eM ?_
 ·obtain ⟨k, hk, hf⟩ := k
  simp only
  repeat' (first | exact trivial | refine eS rfl ?_ | refine ev_out_inv ?_ | refine rX [0, 1, 2, 4, 5, 6, 11, 21] hc ?_ ?_ | (refine rC (fun hcond => ?_) (fun hcond => ?_) <;> try (cases hcond; done)))
  ·exact hcond
  ·assumption
  ·have hk2 : k < fe.length := by exact eV
   rw [valG_step s fe hk2, if_pos hcond] at hf
   exact ev_fin hc [.tmp 4, .tmp 5] rfl (.inl rfl) (by simp) (by rw [← hf]; first | exact eR | refine eRM ?_)
  ·exact eV
  ·have hk2 : k < fe.length := by exact eV
   rw [valG_step s fe hk2, if_neg (by rw [hcond]; simp)] at hf
   refine ⟨⟨k + 1, by omega, hf⟩, by simp only; omega, ent_match [(2, .nm 2)] rfl rfl ?_ ?_⟩
   ·first | exact eN | refine eM ?_
   ·first | exact eN | refine eM ?_
  ·have hk2 : fe.drop k = [] := List.drop_eq_nil_of_le (by exact eV)
   rw [hk2] at hf
   rw [if_pos hz]
   exact ev_fin hc [.tmp 4, .tmp 5] rfl (.inl rfl) (by simp) (by rw [← hf]; first | exact eR | refine eRM ?_; exact ⟨rfl, rfl⟩)
end
/- Functions of grammarlabref04: before. -/
section
attribute [local go_sem] countS
def beforeF (a b : CodedD) : Bool := decide (((listF b.2).length : Int) < ((listF a.2).length : Int)) || ((listF a.2).length : Int) == ((listF b.2).length : Int) && strLt a.1 b.1
def beforeS : Spec := { ins := [T144, T144], pre := fun (a, b, _) => List.length (a : CodedD).2 ≤ 100000 ∧ List.length (b : CodedD).2 ≤ 100000, out := fun (a, b, _) => [.p .bool (beforeF a b)], lend := true }
theorem before_ok : FnOk Tryz.prog 138 beforeS := by
 refine fn_ok Tryz.func138 (by kernel_rfl) rfl Tryz.ntmps138 (by decide) (by kernel_rfl) (tyTab_ok [(189, countS)]) (fns_cons count_ok fns_nil) ?_
 rintro w0 O0 ⟨⟨an, ac⟩, ⟨bn, bc⟩, u⟩ hc - ⟨ha, hb⟩
 simp only [beforeS, entEnv]
 repeat' (first | exact trivial | refine eS rfl ?_ | refine ev_out_inv ?_ | refine rX [0, 1, 2, 3, 4, 5, 6] hc ?_ ?_ | (refine rC (fun hcond => ?_) (fun hcond => ?_) <;> try (cases hcond; done)))
 ·exact ha
 ·exact hb
 ·exact ev_fin hc [.tmp 4] rfl (.inl rfl) (by simp) (by unfold beforeF; first | exact eR | refine eRM ?_)
end
/- Functions of grammarlabref04: code. -/
section
attribute [local go_sem] belowS amongS ofS
def selG (low all : List ByteArray) (n : Nat) : List Int := ((List.range n).filter fun (i : Nat) => amongF low (all.getD i ByteArray.empty)).map fun (i : Nat) => (i : Int)
theorem selG_succ (low all : List ByteArray) (n : Nat) : selG low all (n + 1) = selG low all n ++ if amongF low (all.getD n ByteArray.empty) = true then [(n : Int)] else [] := by
 unfold selG
 rw [List.range_succ, List.filter_append, List.map_append]
 congr 1
 rw [List.filter_cons, List.filter_nil]
 split <;> rfl
theorem selG_len (low all : List ByteArray) (n : Nat) : (selG low all n).length ≤ n := by
 unfold selG
 rw [List.length_map]
 exact Nat.le_trans (List.length_filter_le _ _) (by simp)
def codeF (d : List DeclD) (all : List ByteArray) (s : ByteArray) : List Int := (ofF (selG (belowF d s) all all.length)).1
def codeS : Spec := { ins := [T22, T151, T9], pre := fun (d, l, _, _) => List.length d ≤ 256 ∧ List.length l ≤ 100000, out := fun (d, l, s, _) => [.p T142 (codeF d l s)] }
theorem code_ok : FnOk Tryz.prog 135 codeS := by
 refine fn_ok Tryz.func135 (by kernel_rfl) rfl Tryz.ntmps135 (by decide) (by kernel_rfl) (tyTab_ok [(182, belowS), (183, amongS), (184, ofS)]) (fns_cons below_ok (fns_cons among_ok (fns_cons of_ok fns_nil))) ?_
 rintro w0 O0 ⟨d, l, s, u⟩ hc - ⟨hd, hl⟩
 have hl : l.length ≤ 100000 := hl
 have hcf : codeF d l s = (ofF (selG (belowF d s) l l.length)).1 := rfl
 simp only [codeS, entEnv]
 repeat' (first | exact trivial | refine eS rfl ?_ | refine ev_out_inv ?_ | refine rX [0, 1, 2, 6, 7, 8, 9, 10, 18, 26] hc ?_ ?_ | (refine rC (fun hcond => ?_) (fun hcond => ?_) <;> try (cases hcond; done)))
 ·exact hd
 ·rw [hcf]
  generalize belowF d s = low at *
  refine ev_loop (ι := {n : Nat // n ≤ l.length}) (fun n => ⟨[(0, .p T22 d), (1, .p T151 l), (2, .p T9 s), (7, .p T151 low), (8, .sr 30 T3 0 (selG low l n.1).length), (9, .p (.int .i64) (n.1 : Int))], [(30, .arr 3 T3 (selG low l n.1))]⟩) (fun n => l.length - n.1) ⟨0, Nat.zero_le _⟩ (ent_match [(30, .nil)] rfl rfl ?_ ?_) (fun n => ?_)
  ·first | exact eN | refine eM ?_
   rfl
  ·first | exact eN | refine eM ?_
   rfl
  ·obtain ⟨n, hn⟩ := n
   have hz := selG_len low l n
   have hs := selG_succ low l n
   simp only
   repeat' (first | exact trivial | refine eS rfl ?_ | refine ev_out_inv ?_ | refine rX [0, 1, 2, 6, 7, 8, 9, 10, 18, 26] hc ?_ ?_ | (refine rC (fun hcond => ?_) (fun hcond => ?_) <;> try (cases hcond; done)))
   ·exact hcond
   ·rw [hcond, if_pos rfl] at hs
    simp only [maxN]
    dsimp only [Ty.den] at *
    omega
   ·exact eV
   ·have hn2 : n < l.length := by exact eV
    rw [hcond, if_pos rfl] at hs
    refine ⟨⟨n + 1, by omega⟩, by simp only; omega, ent_match [(30, .nm 30)] rfl rfl ?_ ?_⟩
    ·simp only [hs]
     first | exact eN | refine eM ?_
    ·simp only [hs]
     first | exact eN | refine eM ?_
   ·exact eV
   ·have hn2 : n < l.length := by exact eV
    rw [hcond, if_neg (by simp), List.append_nil] at hs
    refine ⟨⟨n + 1, by omega⟩, by simp only; omega, ent_match [(30, .nm 30)] rfl rfl ?_ ?_⟩
    ·simp only [hs]
     first | exact eN | refine eM ?_
    ·simp only [hs]
     first | exact eN | refine eM ?_
   ·have hn2 : n = l.length := by exact eV
    subst hn2
    refine frzE [30] ?_
    repeat' (first | exact trivial | refine eS rfl ?_ | refine ev_out_inv ?_ | refine rX [0, 1, 2, 6, 7, 8, 9, 10, 18, 26] hc ?_ ?_ | (refine rC (fun hcond => ?_) (fun hcond => ?_) <;> try (cases hcond; done)))
    exact ev_fin hc [.tmp 6] rfl (.inl rfl) (by simp) (by first | exact eR | refine eRM ?_)
end
/- Functions of grammarlabref05: feats. -/
section
attribute [local go_sem] putS
def fputA (o : List ByteArray) (f : ByteArray × ByteArray) : List ByteArray := putF o f.1
def featsA (o : List ByteArray) (x : DeclD) : List ByteArray := x.2.2.foldl fputA o
def featsF (d : List DeclD) : List ByteArray := d.foldl featsA []
theorem fputA_len (l : List (ByteArray × ByteArray)) : ∀ o : List ByteArray, (l.foldl fputA o).length ≤ o.length + l.length := by
 induction l with
 | nil => intro o; simp
 | cons x l ih =>
  intro o
  have h1 := ih (fputA o x)
  have h2 : (fputA o x).length ≤ o.length + 1 := putF_len o x.1
  simp only [List.foldl_cons, List.length_cons]
  omega
theorem featsA_len {d : List DeclD} (h : ∀ x ∈ d, x.2.2.length ≤ 256) : ∀ (l : List DeclD), (∀ x ∈ l, x ∈ d) → ∀ o : List ByteArray, (l.foldl featsA o).length ≤ o.length + 256 * l.length := by
 intro l
 induction l with
 | nil => intro _ o; simp
 | cons x l ih =>
  intro hl o
  have h1 := ih (fun y hy => hl y (by simp [hy])) (featsA o x)
  have h2 := fputA_len x.2.2 o
  have h3 := h x (hl x (by simp))
  have h4 : (featsA o x).length = (x.2.2.foldl fputA o).length := rfl
  simp only [List.foldl_cons, List.length_cons]
  omega
def featsS : Spec := { ins := [T22], pre := fun (d, _) => List.length d ≤ 256 ∧ (∀ x ∈ (d : List DeclD), x.2.2.length ≤ 256), out := fun (d, _) => [.p T151 (featsF d)] }
theorem feats_ok : FnOk Tryz.prog 130 featsS := by
 refine fn_ok Tryz.func130 (by kernel_rfl) rfl Tryz.ntmps130 (by decide) (by kernel_rfl) (tyTab_ok [(174, putS)]) (fns_cons put_ok fns_nil) ?_
 rintro w0 O0 ⟨d, u⟩ hc - ⟨hd, hx⟩
 have hd : d.length ≤ 256 := hd
 simp only [featsS, entEnv]
 repeat' (first | exact trivial | refine eS rfl ?_ | refine ev_out_inv ?_ | refine rX [0, 2, 3, 4, 5, 9, 19] hc ?_ ?_ | (refine rC (fun hcond => ?_) (fun hcond => ?_) <;> try (cases hcond; done)))
 refine ev_loop (ι := {i : Nat // i ≤ d.length}) (fun i => ⟨[(0, .p T22 d), (3, .p T151 (featsF (d.take i.1))), (4, .p (.int .i64) (i.1 : Int))], []⟩) (fun i => d.length - i.1) ⟨0, Nat.zero_le _⟩ (ent_match [] rfl rfl ?_ ?_) (fun i => ?_)
 ·first | exact eN | refine eM ?_
 ·first | exact eN | refine eM ?_
  rfl
 ·obtain ⟨i, hi⟩ := i
  have hlen := featsA_len hx (d.take i) (fun x h => List.mem_of_mem_take h) []
  have htl := List.length_take_le i d
  have hs := fun h : i < d.length => fold_tk featsA d d0 [] h
  have hfe : ∀ e, featsF e = e.foldl featsA [] := fun _ => rfl
  simp only
  repeat' (first | exact trivial | refine eS rfl ?_ | refine ev_out_inv ?_ | refine rX [0, 2, 3, 4, 5, 9, 19] hc ?_ ?_ | (refine rC (fun hcond => ?_) (fun hcond => ?_) <;> try (cases hcond; done)))
  ·have hi2 : i < d.length := by exact eV
   have hxi := hx _ (mem_of_take_succ d d0 hi2)
   have hs := hs hi2
   rw [← hfe, ← hfe] at hs
   rw [← hfe] at hlen
   generalize featsF (d.take i) = o at *
   refine ev_loop (ι := {k : Nat // k ≤ (d.getD i d0).2.2.length}) (fun k => ⟨[(0, .p T22 d), (3, .p T151 (((d.getD i d0).2.2.take k.1).foldl fputA o)), (4, .p (.int .i64) (i : Int)), (5, .p (.int .i64) (k.1 : Int))], []⟩) (fun k => (d.getD i d0).2.2.length - k.1) ⟨0, Nat.zero_le _⟩ (ent_match [] rfl rfl ?_ ?_) (fun k => ?_)
   ·first | exact eN | refine eM ?_
   ·first | exact eN | refine eM ?_
    rfl
   ·obtain ⟨k, hk⟩ := k
    have hk' : k ≤ (d.getD i d0).2.2.length := hk
    have hfl := fputA_len ((d.getD i d0).2.2.take k) o
    have hkl := List.length_take_le k (d.getD i d0).2.2
    have hss := fun h : k < (d.getD i d0).2.2.length => fold_tk fputA (d.getD i d0).2.2 (ByteArray.empty, ByteArray.empty) o h
    simp only
    repeat' (first | exact trivial | refine eS rfl ?_ | refine ev_out_inv ?_ | refine rX [0, 2, 3, 4, 5, 9, 19] hc ?_ ?_ | (refine rC (fun hcond => ?_) (fun hcond => ?_) <;> try (cases hcond; done)))
    ·assumption
    ·refine ⟨by assumption, hcond, ?_⟩
     simp only [List.length_nil] at hlen
     dsimp only [Ty.den] at *
     omega
    ·have h1 : (k : Int) < ((d.getD i d0).2.2.length : Int) := hcond
     exact eV
    ·have hk2 : k < (d.getD i d0).2.2.length := Int.ofNat_lt.1 hcond
     have e := hss hk2
     refine ⟨⟨k + 1, hk2⟩, by simp only; omega, ent_match [] rfl rfl ?_ ?_⟩
     ·first | exact eN | refine eM ?_
     ·simp only [e]
      unfold fputA
      first | exact eN | refine eM ?_
    ·have := hd
     exact eV
    ·have hk2 : (d.getD i d0).2.2.take k = (d.getD i d0).2.2 := List.take_of_length_le (Int.ofNat_le.1 hcond)
     have e : featsF (d.take (i + 1)) = ((d.getD i d0).2.2.take k).foldl fputA o := by rw [hk2]; exact hs
     refine ⟨⟨i + 1, hi2⟩, by simp only; omega, ent_match [] rfl rfl ?_ ?_⟩
     ·first | exact eN | refine eM ?_
     ·simp only [e]
      first | exact eN | refine eM ?_
  ·have hk2 : d.take i = d := List.take_of_length_le (by exact eV)
   rw [hk2]
   exact ev_fin hc [.tmp 2] rfl (.inl rfl) (by simp) (by first | exact eR | refine eRM ?_)
end
/- What a hierarchy that passes grammarlabref03.Check is: all supertypes are declared. -/
section
theorem supG_zero {d : List DeclD} {l : List ByteArray} : ∀ {r : List ByteArray} {k : Nat}, supG d l k r = 0 → ∀ s ∈ r, 0 ≤ dfindF d s
 | [], _, _, s, hs => by cases hs
 | x :: r, k, h, s, hs => by
  simp only [supG] at h
  split at h
  ·cases h
  ·rename_i h1
   split at h
   ·cases h
   ·rcases List.mem_cons.1 hs with rfl | hs
    ·omega
    ·exact supG_zero h s hs
theorem supersG_zero {d : List DeclD} : ∀ {l : List DeclD}, supersG d l = 0 → ∀ x ∈ l, ∀ s ∈ x.2.1, 0 ≤ dfindF d s
 | [], _, x, hx => by cases hx
 | y :: l, h, x, hx => by
  simp only [supersG] at h
  split at h
  ·rename_i h1; exact absurd h h1
  ·rename_i h1
   rcases List.mem_cons.1 hx with rfl | hx
   ·exact supG_zero (Classical.byContradiction h1)
   ·exact supersG_zero h x hx
theorem supOk_of {d : List DeclD} (h : supersF d = 0) : SupOk d := supersG_zero h
theorem check3_zero {d : List DeclD} (h : check3F d = 0) : SupOk d ∧ d.length ≤ 256 ∧ rootsN d = 1 ∧ namesF d = 0 ∧ d.length ≤ (placedF d).length := by
 unfold check3F at h
 split at h
 ·rename_i h1; exact absurd h h1
 ·rename_i h1
  split at h
  ·rename_i h2; exact absurd h h2
  ·rename_i h2
   split at h
   ·rename_i h3; exact absurd h h3
   ·rename_i h3
    split at h
    ·cases h
    ·rename_i h4
     split at h
     ·cases h
     ·rename_i h5
      exact ⟨supOk_of (Classical.byContradiction h3), sizesF_zero (Classical.byContradiction h1), Classical.byContradiction h4, Classical.byContradiction h2, by omega⟩
end
/- Functions of grammarlabref04: family. -/
section
attribute [local go_sem] inBS andS
def famK (l : List (List Int)) (i k : Nat) : List (List Int) :=
 if (decide (0 < ((andF (l.getD i []) (l.getD k [])).length : Int)) && !inBF l (andF (l.getD i []) (l.getD k []))) = true then l ++ [andF (l.getD i []) (l.getD k [])] else l
def famI (i : Nat) : Nat → Nat → List (List Int) → List (List Int)
 | 0, _, l => l
 | n + 1, k, l => if l.length ≤ 256 then famI i n (k + 1) (famK l i k) else l
def famG : Nat → Nat → List (List Int) → List (List Int)
 | 0, _, l => l
 | n + 1, i, l => if i < l.length ∧ l.length ≤ 256 then famG n (i + 1) (famI i i 0 l) else l
def familyF (c : List (List Int)) : List (List Int) := famG 257 0 c
theorem andF_len (a b : List Int) : (andF a b).length ≤ a.length := by
 unfold andF normalF
 have := zipL_len .and a b a.length
 rw [List.length_take]
 omega
structure FamOk (l : List (List Int)) : Prop where
 len : l.length ≤ 257
 wid : ∀ c ∈ l, c.length ≤ 64
theorem wid_getD {l : List (List Int)} (h : ∀ c ∈ l, c.length ≤ 64) (k : Nat) : (l.getD k []).length ≤ 64 := by
 rw [List.getD_eq_getElem?_getD]
 cases hh : l[k]? with
 | none => simp
 | some x => exact h x (List.mem_of_getElem? hh)
theorem famK_wid {l : List (List Int)} (h : ∀ c ∈ l, c.length ≤ 64) (i k : Nat) : ∀ c ∈ famK l i k, c.length ≤ 64 := by
 unfold famK
 split
 ·intro c hc
  rcases List.mem_append.1 hc with hc | hc
  ·exact h c hc
  ·have : c = andF (l.getD i []) (l.getD k []) := by simpa using hc
   rw [this]
   exact Nat.le_trans (andF_len _ _) (wid_getD h i)
 ·exact h
theorem famK_len (l : List (List Int)) (i k : Nat) : l.length ≤ (famK l i k).length ∧ (famK l i k).length ≤ l.length + 1 := by
 unfold famK
 split
 ·simp
 ·exact ⟨Nat.le_refl _, Nat.le_succ _⟩
def familyS : Spec := { ins := [T191], pre := fun (c, _) => List.length c ≤ 256 ∧ ∀ x ∈ (c : List (List Int)), x.length ≤ 64, out := fun (c, _) => [.p T191 (familyF c)] }
theorem family_ok : FnOk Tryz.prog 136 familyS := by
 refine fn_ok Tryz.func136 (by kernel_rfl) rfl Tryz.ntmps136 (by decide) (by kernel_rfl) (tyTab_ok [(143, andS), (185, inBS)]) (fns_cons and_ok (fns_cons inB_ok fns_nil)) ?_
 rintro w0 O0 ⟨c, u⟩ hc - ⟨hcl, hcw⟩
 have hcl : c.length ≤ 256 := hcl
 simp only [familyS, entEnv]
 repeat' (first | exact trivial | refine eS rfl ?_ | refine ev_out_inv ?_ | refine rX [0, 2, 3, 4, 5, 6, 18, 28, 48] hc ?_ ?_ | (refine rC (fun hcond => ?_) (fun hcond => ?_) <;> try (cases hcond; done)))
 ·simp only [maxN]; dsimp only [Ty.den] at *; omega
 ·refine ev_loop (ι := {x : Nat × List (List Int) // x.1 ≤ 256 ∧ FamOk x.2 ∧ famG (257 - x.1) x.1 x.2 = familyF c}) (fun x => ⟨[(3, .sr 7 T142 0 x.1.2.length), (4, .p (.int .i64) (x.1.1 : Int))], [(7, .arr 142 T142 x.1.2)]⟩) (fun x => 257 - x.1.1) ⟨(0, c), by simp, ⟨by simp only; omega, hcw⟩, rfl⟩ (ent_match [(7, .nm 7)] rfl rfl ?_ ?_) (fun x => ?_)
  ·first | exact eN | refine eM ?_
  ·first | exact eN | refine eM ?_
  ·obtain ⟨⟨i, l⟩, hi, ⟨hll, hlw⟩, hg⟩ := x
   simp only at hi hll hlw hg
   simp only
   repeat' (first | exact trivial | refine eS rfl ?_ | refine ev_out_inv ?_ | refine rX [0, 2, 3, 4, 5, 6, 18, 28, 48] hc ?_ ?_ | (refine rC (fun hcond => ?_) (fun hcond => ?_) <;> try (cases hcond; done)))
   ·have hi2 : i < l.length := by omega
    have hl2 : l.length ≤ 256 := by omega
    have hg2 : famG (256 - i) (i + 1) (famI i i 0 l) = familyF c := by
     have e : 257 - i = (256 - i) + 1 := by omega
     rw [← hg, e]
     show _ = if i < l.length ∧ l.length ≤ 256 then famG (256 - i) (i + 1) (famI i i 0 l) else l
     rw [if_pos ⟨hi2, hl2⟩]
    refine ev_loop (ι := {y : Nat × List (List Int) // y.1 ≤ i ∧ FamOk y.2 ∧ l.length ≤ y.2.length ∧ famI i (i - y.1) y.1 y.2 = famI i i 0 l}) (fun y => ⟨[(3, .sr 7 T142 0 y.1.2.length), (4, .p (.int .i64) (i : Int)), (5, .p (.int .i64) (y.1.1 : Int))], [(7, .arr 142 T142 y.1.2)]⟩) (fun y => i - y.1.1) ⟨(0, l), by simp, ⟨hll, hlw⟩, Nat.le_refl _, rfl⟩ (ent_match [(7, .nm 7)] rfl rfl ?_ ?_) (fun y => ?_)
    ·first | exact eN | refine eM ?_
    ·first | exact eN | refine eM ?_
    ·obtain ⟨⟨k, m⟩, hk, ⟨hml, hmw⟩, hlm, hf⟩ := y
     simp only at hk hml hmw hlm hf
     simp only
     repeat' (first | exact trivial | refine eS rfl ?_ | refine ev_out_inv ?_ | refine rX [0, 2, 3, 4, 5, 6, 18, 28, 48] hc ?_ ?_ | (refine rC (fun hcond => ?_) (fun hcond => ?_) <;> try (cases hcond; done)))
     ·exact ⟨by exact eV, by exact eV, Nat.le_trans (wid_getD hmw i) (by decide)⟩
     ·simp only [maxN]; omega
     ·omega
     ·have e : famK m i k = m ++ [andF (m.getD i []) (m.getD k [])] := by
       unfold famK
       rw [if_pos]
       rw [Bool.and_eq_true, decide_eq_true_eq, Bool.not_eq_true']
       exact hcond
      have hw := famK_wid hmw i k
      have h2 := famK_len m i k
      refine ⟨⟨(k + 1, famK m i k), by simp only; omega, ⟨by simp only; omega, hw⟩, by simp only; omega, ?_⟩, by simp only; omega, ent_match [(7, .nm 7)] rfl rfl ?_ ?_⟩
      ·simp only
       rw [← hf, show i - k = (i - (k + 1)) + 1 by omega]
       show _ = if m.length ≤ 256 then famI i (i - (k + 1)) (k + 1) (famK m i k) else m
       rw [if_pos (by omega)]
      ·simp only [e]
       first | exact eN | refine eM ?_
      ·simp only [e]
       first | exact eN | refine eM ?_
     ·omega
     ·have e : famK m i k = m := by
       unfold famK
       rw [if_neg]
       rw [Bool.and_eq_true, decide_eq_true_eq, Bool.not_eq_true']
       intro h
       rw [hcond h.1] at h
       exact absurd h.2 (by simp)
      refine ⟨⟨(k + 1, m), by simp only; omega, ⟨hml, hmw⟩, hlm, ?_⟩, by simp only; omega, ent_match [(7, .nm 7)] rfl rfl ?_ ?_⟩
      ·simp only
       rw [← hf, show i - k = (i - (k + 1)) + 1 by omega]
       show _ = if m.length ≤ 256 then famI i (i - (k + 1)) (k + 1) (famK m i k) else m
       rw [if_pos (by omega), e]
      ·first | exact eN | refine eM ?_
      ·first | exact eN | refine eM ?_
     ·omega
     ·have hm2 : m = famI i i 0 l := by
       rw [← hf]
       cases hm : i - k with
       | zero => rfl
       | succ j =>
        show _ = if m.length ≤ 256 then _ else m
        rw [if_neg (by omega)]
      rw [← hm2] at hg2
      refine ⟨⟨(i + 1, m), by simp only; omega, ⟨hml, hmw⟩, ?_⟩, by simp only; omega, ent_match [(7, .nm 7)] rfl rfl ?_ ?_⟩
      ·simp only
       rw [show 257 - (i + 1) = 256 - i by omega]
       exact hg2
      ·first | exact eN | refine eM ?_
      ·first | exact eN | refine eM ?_
   ·have hgl : l = familyF c := by
     rw [← hg]
     cases hm : 257 - i with
     | zero => rfl
     | succ m =>
      show _ = if i < l.length ∧ l.length ≤ 256 then _ else l
      rw [if_neg (by omega)]
    rw [← hgl]
    refine frzE [7] ?_
    exact ev_fin hc [.tmp 2] rfl (.inl rfl) (by simp) (by first | exact eR | refine eRM ?_)
theorem cs0 {α : Type} (x y : α) : (if ({ data := #[] } : ByteArray).size ≤ maxN then x else y) = x := if_pos (by show 0 ≤ maxN; decide)
theorem cs1 {α : Type} (a : UInt8) (x y : α) : (if ({ data := #[a] } : ByteArray).size ≤ maxN then x else y) = x := if_pos (by show 1 ≤ maxN; decide)
theorem cs2 {α : Type} (a b : UInt8) (x y : α) : (if ({ data := #[a, b] } : ByteArray).size ≤ maxN then x else y) = x := if_pos (by show 2 ≤ maxN; decide)
theorem cs3 {α : Type} (a b c : UInt8) (x y : α) : (if ({ data := #[a, b, c] } : ByteArray).size ≤ maxN then x else y) = x := if_pos (by show 3 ≤ maxN; decide)
theorem cs4 {α : Type} (a b c d : UInt8) (x y : α) : (if ({ data := #[a, b, c, d] } : ByteArray).size ≤ maxN then x else y) = x := if_pos (by show 4 ≤ maxN; decide)
theorem cs5 {α : Type} (a b c d e : UInt8) (x y : α) : (if ({ data := #[a, b, c, d, e] } : ByteArray).size ≤ maxN then x else y) = x := if_pos (by show 5 ≤ maxN; decide)
theorem cs6 {α : Type} (a b c d e f : UInt8) (x y : α) : (if ({ data := #[a, b, c, d, e, f] } : ByteArray).size ≤ maxN then x else y) = x := if_pos (by show 6 ≤ maxN; decide)
theorem cs7 {α : Type} (a b c d e f g : UInt8) (x y : α) : (if ({ data := #[a, b, c, d, e, f, g] } : ByteArray).size ≤ maxN then x else y) = x := if_pos (by show 7 ≤ maxN; decide)
theorem cs8 {α : Type} (a b c d e f g h : UInt8) (x y : α) : (if ({ data := #[a, b, c, d, e, f, g, h] } : ByteArray).size ≤ maxN then x else y) = x := if_pos (by show 8 ≤ maxN; decide)
end
/- Plain: the bits of the codes. -/
section
def bitN (b : List Int) (i : Nat) : Bool := (b.getD (i / 64) 0).toNat.testBit (i % 64)
def U64 (x : Int) : Prop := 0 ≤ x ∧ x < 18446744073709551616
theorem ofInt_nat {x : Int} (h : U64 x) : (BitVec.ofInt 64 x).toNat = x.toNat := by
 rw [BitVec.toNat_ofInt]
 have h1 := h.1
 have h2 := h.2
 rw [Int.emod_eq_of_lt h1 (by simpa using h2)]
theorem wrap_nat {n : Nat} (h : n < 18446744073709551616) : IntKind.u64.wrap (n : Int) = n := wrap_in (by rw [inK_u64]; omega)
theorem or_bits {x y : Int} (hx : U64 x) (hy : U64 y) : bitsV .or .u64 x y = ((x.toNat ||| y.toNat : Nat) : Int) := by
 have h1 : (BitVec.ofInt IntKind.u64.bits x ||| BitVec.ofInt IntKind.u64.bits y).toNat = x.toNat ||| y.toNat := by
  rw [BitVec.toNat_or]
  show (BitVec.ofInt 64 x).toNat ||| (BitVec.ofInt 64 y).toNat = _
  rw [ofInt_nat hx, ofInt_nat hy]
 unfold bitsV
 simp only
 rw [h1]
 have e : (18446744073709551616 : Nat) = 2 ^ 64 := by decide
 refine wrap_nat ?_
 rw [e]
 refine Nat.or_lt_two_pow ?_ ?_
 ·have := hx.2; have := hx.1; omega
 ·have := hy.2; have := hy.1; omega
theorem and_bits {x y : Int} (hx : U64 x) (hy : U64 y) : bitsV .and .u64 x y = ((x.toNat &&& y.toNat : Nat) : Int) := by
 have h1 : (BitVec.ofInt IntKind.u64.bits x &&& BitVec.ofInt IntKind.u64.bits y).toNat = x.toNat &&& y.toNat := by
  rw [BitVec.toNat_and]
  show (BitVec.ofInt 64 x).toNat &&& (BitVec.ofInt 64 y).toNat = _
  rw [ofInt_nat hx, ofInt_nat hy]
 unfold bitsV
 simp only
 rw [h1]
 refine wrap_nat (Nat.lt_of_le_of_lt Nat.and_le_left ?_)
 have := hx.2; have := hx.1; omega
theorem andNot_eq {x y : Int} : bitsV .andNot .u64 x y = ((BitVec.ofInt 64 x &&& ~~~BitVec.ofInt 64 y).toNat : Int) := by
 show IntKind.u64.wrap ((BitVec.ofInt 64 x &&& ~~~BitVec.ofInt 64 y).toNat : Int) = _
 exact wrap_nat (BitVec.isLt _)
theorem andNot_bits {x y : Int} (hx : U64 x) (hy : U64 y) (h : bitsV .andNot .u64 x y = 0) {r : Nat} (hr : r < 64) (hb : x.toNat.testBit r = true) : y.toNat.testBit r = true := by
 rw [andNot_eq] at h
 have h1 : (BitVec.ofInt 64 x &&& ~~~BitVec.ofInt 64 y).toNat = 0 := by omega
 have h2 : (BitVec.ofInt 64 x &&& ~~~BitVec.ofInt 64 y).toNat.testBit r = false := by rw [h1]; exact Nat.zero_testBit r
 rw [BitVec.testBit_toNat, BitVec.getLsbD_and, BitVec.getLsbD_not, ← BitVec.testBit_toNat, ← BitVec.testBit_toNat, ofInt_nat hx, ofInt_nat hy, hb] at h2
 simpa [hr] using h2
theorem andNot_self {x : Int} : bitsV .andNot .u64 x x = 0 := by
 rw [andNot_eq]
 simp
theorem normN_zero {b : List Int} : ∀ {n : Nat}, ∀ k, normN b n ≤ k → k < n → b.getD k 0 = 0
 | 0, k, _, h => by omega
 | n + 1, k, h1, h2 => by
  unfold normN at h1
  split at h1
  ·rename_i hz
   by_cases hk : k = n
   ·rw [hk]; exact hz
   ·exact normN_zero k h1 (by omega)
  ·omega
theorem normalF_getD (b : List Int) (k : Nat) : (normalF b).getD k 0 = b.getD k 0 := by
 unfold normalF
 by_cases h : k < normN b b.length
 ·simp [List.getD_eq_getElem?_getD, List.getElem?_take, h]
 ·have h1 : (List.take (normN b b.length) b).getD k 0 = 0 := by
   rw [List.getD_eq_getElem?_getD, List.getElem?_take, if_neg h]; rfl
  rw [h1]
  by_cases h2 : k < b.length
  ·exact (normN_zero k (by omega) h2).symm
  ·rw [List.getD_eq_getElem?_getD, List.getElem?_eq_none (by omega)]; rfl
theorem bit_normal (b : List Int) (i : Nat) : bitN (normalF b) i = bitN b i := by unfold bitN; rw [normalF_getD]
def Wds (b : List Int) : Prop := ∀ x ∈ b, U64 x
theorem getD_U64 {b : List Int} (h : Wds b) (k : Nat) : U64 (b.getD k 0) := by
 rw [List.getD_eq_getElem?_getD]
 cases hh : b[k]? with
 | none => exact ⟨by simp, by simp⟩
 | some x => exact h x (List.mem_of_getElem? hh)
theorem normal_wds {b : List Int} (h : Wds b) : Wds (normalF b) := fun x hx => h x (List.mem_of_mem_take hx)
theorem wordF_nat (b : List Int) (k : Nat) : wordF b (k : Int) = b.getD k 0 := by
 unfold wordF
 split
 ·simp
 ·rename_i h
  rw [List.getD_eq_getElem?_getD, List.getElem?_eq_none (by omega)]; rfl
theorem zipL_getD (op : BinOp) (a b : List Int) {n k : Nat} (h : k < n) : (zipL op a b n).getD k 0 = bitsV op .u64 (a.getD k 0) (b.getD k 0) := by
 unfold zipL
 rw [List.getD_eq_getElem?_getD, List.getElem?_map, List.getElem?_range h]
 show bitsV op .u64 (a.getD k 0) (wordF b (k : Int)) = _
 rw [wordF_nat]
theorem subset_words {a b : List Int} (h : subsetF a b = true) {k : Nat} (hk : k < a.length) : bitsV .andNot .u64 (a.getD k 0) (b.getD k 0) = 0 := by
 unfold subsetF minusF normalF at h
 have h1 : (List.take (normN (zipL .andNot a b a.length) (zipL .andNot a b a.length).length) (zipL .andNot a b a.length)).length = 0 := by
  have := beq_iff_eq.1 h
  omega
 rw [List.length_take, zipL_len] at h1
 have h2 := normN_le (zipL .andNot a b a.length) a.length
 have h3 := normN_zero (b := zipL .andNot a b a.length) (n := a.length) k (by omega) hk
 rw [zipL_getD _ _ _ hk] at h3
 exact h3
theorem subset_bits {a b : List Int} (ha : Wds a) (hb : Wds b) (h : subsetF a b = true) {i : Nat} (hi : bitN a i = true) : bitN b i = true := by
 by_cases hk : i / 64 < a.length
 ·exact andNot_bits (getD_U64 ha _) (getD_U64 hb _) (subset_words h hk) (Nat.mod_lt _ (by decide)) hi
 ·exfalso
  unfold bitN at hi
  rw [List.getD_eq_getElem?_getD, List.getElem?_eq_none (by omega)] at hi
  simp at hi
theorem normN_all {b : List Int} : ∀ {n : Nat}, (∀ k, k < n → b.getD k 0 = 0) → normN b n = 0
 | 0, _ => rfl
 | n + 1, h => by
  unfold normN
  rw [if_pos (h n (by omega))]
  exact normN_all fun k hk => h k (by omega)
theorem subset_refl (a : List Int) : subsetF a a = true := by
 unfold subsetF minusF normalF
 have h1 : normN (zipL .andNot a a a.length) (zipL .andNot a a a.length).length = 0 := by
  rw [zipL_len]
  exact normN_all fun k hk => by rw [zipL_getD _ _ _ hk]; exact andNot_self
 rw [h1]
 rfl
theorem equalB_refl (a : List Int) : equalBF a a = true := by unfold equalBF; rw [subset_refl]; rfl
theorem ofA_bit {b : List Int} (hb : Wds b) (hl : b.length = 64) {x : Int} (h0 : 0 ≤ x) (h1 : x ≤ 4095) (i : Nat) : bitN (ofA b x) i = (bitN b i || decide (x = (i : Int))) := by
 have e1 : Int.tdiv x 64 = x / 64 := Int.tdiv_eq_ediv_of_nonneg h0
 have e2 : Int.tmod x 64 = x % 64 := Int.tmod_eq_emod_of_nonneg h0
 obtain ⟨n, rfl⟩ : ∃ n : Nat, x = (n : Int) := ⟨x.toNat, by omega⟩
 have hs : shlV .u64 1 ((n : Int) % 64) = ((2 ^ (n % 64) : Nat) : Int) := by
  unfold shlV
  have e3 : min ((n : Int) % 64).toNat IntKind.u64.bits = n % 64 := by
   have : ((n : Int) % 64).toNat = n % 64 := by omega
   rw [this]
   have : IntKind.u64.bits = 64 := rfl
   omega
  rw [e3, Int.one_mul]
  have : (2 : Int) ^ (n % 64) = ((2 ^ (n % 64) : Nat) : Int) := by simp
  rw [this]
  refine wrap_nat ?_
  have h3 : (2 : Nat) ^ (n % 64) < 2 ^ 64 := Nat.pow_lt_pow_right (by decide) (Nat.mod_lt _ (by decide))
  exact h3
 have hu : U64 (shlV .u64 1 ((n : Int) % 64)) := by
  rw [hs]
  have h3 : (2 : Nat) ^ (n % 64) < 2 ^ 64 := Nat.pow_lt_pow_right (by decide) (Nat.mod_lt _ (by decide))
  have h4 : (2 : Nat) ^ 64 = 18446744073709551616 := by decide
  refine ⟨Int.natCast_nonneg _, ?_⟩
  rw [h4] at h3
  exact Int.ofNat_lt.2 h3
 have hn : ((n : Int) / 64).toNat = n / 64 := by omega
 unfold ofA bitN
 rw [e1, e2, hn]
 by_cases hd : i / 64 = n / 64
 ·have hlt : n / 64 < b.length := by omega
  rw [hd]
  have : (b.set (n / 64) (bitsV .or .u64 (b.getD (n / 64) 0) (shlV .u64 1 ((n : Int) % 64)))).getD (n / 64) 0 = bitsV .or .u64 (b.getD (n / 64) 0) (shlV .u64 1 ((n : Int) % 64)) := by
   simp [List.getD_eq_getElem?_getD, hlt]
  rw [this, or_bits (getD_U64 hb _) hu, hs]
  simp only [Int.toNat_natCast, Nat.testBit_or, Nat.testBit_two_pow]
  congr 1
  rw [decide_eq_decide]
  omega
 ·have : (b.set (n / 64) (bitsV .or .u64 (b.getD (n / 64) 0) (shlV .u64 1 ((n : Int) % 64)))).getD (i / 64) 0 = b.getD (i / 64) 0 := by
   simp [List.getD_eq_getElem?_getD, List.getElem?_set, Ne.symm hd]
  rw [this]
  have : decide ((n : Int) = (i : Int)) = false := by
   rw [decide_eq_false_iff_not]
   intro h
   exact hd (by omega)
  rw [this, Bool.or_false]
theorem ofA_wds {b : List Int} (hb : Wds b) (x : Int) : Wds (ofA b x) := by
 intro y hy
 unfold ofA at hy
 rcases List.mem_or_eq_of_mem_set hy with h | h
 ·exact hb y h
 ·rw [h]
  have := in_wrap .u64 ((BitVec.ofInt IntKind.u64.bits (b.getD (x.tdiv 64).toNat 0) ||| BitVec.ofInt IntKind.u64.bits (shlV .u64 1 (x.tmod 64))).toNat : Int)
  rw [inK_u64] at this
  exact ⟨this.1, by have := this.2; show _ < _; exact Int.lt_of_le_of_lt this (by decide)⟩
theorem ofL_bit {l : List Int} (h : l.all okB = true) (i : Nat) : bitN (ofL l) i = decide ((i : Int) ∈ l) ∧ Wds (ofL l) := by
 have key : ∀ (l b : List Int), l.all okB = true → Wds b → b.length = 64 → bitN (l.foldl ofA b) i = (bitN b i || decide ((i : Int) ∈ l)) ∧ Wds (l.foldl ofA b) := by
  intro l
  induction l with
  | nil => intro b _ hb _; simp [hb]
  | cons x l ih =>
   intro b ho hb hl
   rw [List.all_cons, Bool.and_eq_true] at ho
   have hx := ho.1
   unfold okB at hx
   rw [Bool.not_eq_true', Bool.or_eq_false_iff, decide_eq_false_iff_not, decide_eq_false_iff_not] at hx
   obtain ⟨g1, g2⟩ := ih (ofA b x) ho.2 (ofA_wds hb x) (by simp [ofA, hl])
   rw [List.foldl_cons]
   refine ⟨?_, g2⟩
   rw [g1, ofA_bit hb hl (by omega) (by omega), Bool.or_assoc]
   congr 1
   rw [← Bool.decide_or, decide_eq_decide, List.mem_cons, eq_comm]
 have h2 : Wds (List.replicate 64 (0 : Int)) := by
  intro y hy
  rw [(List.mem_replicate.1 hy).2]
  exact ⟨by decide, by decide⟩
 have h1 := key l (List.replicate 64 0) h h2 (by simp)
 refine ⟨?_, h1.2⟩
 unfold ofL
 rw [h1.1]
 have : bitN (List.replicate 64 (0 : Int)) i = false := by
  unfold bitN
  have : (List.replicate 64 (0 : Int)).getD (i / 64) 0 = 0 := by
   rw [List.getD_eq_getElem?_getD, List.getElem?_replicate]
   split <;> rfl
  rw [this]
  simp
 rw [this, Bool.false_or]
theorem selG_mem {low all : List ByteArray} {n i : Nat} : ((i : Int) ∈ selG low all n) ↔ i < n ∧ amongF low (all.getD i ByteArray.empty) = true := by
 unfold selG
 rw [List.mem_map]
 constructor
 ·rintro ⟨j, hj, e⟩
  have : j = i := by omega
  subst this
  rw [List.mem_filter, List.mem_range] at hj
  exact hj
 ·rintro ⟨h1, h2⟩
  exact ⟨i, by rw [List.mem_filter, List.mem_range]; exact ⟨h1, h2⟩, rfl⟩
theorem selG_ok {low all : List ByteArray} {n : Nat} (hn : n ≤ 4096) : (selG low all n).all okB = true := by
 rw [List.all_eq_true]
 intro x hx
 unfold selG at hx
 obtain ⟨j, hj, rfl⟩ := List.mem_map.1 hx
 rw [List.mem_filter, List.mem_range] at hj
 unfold okB
 rw [Bool.not_eq_true', Bool.or_eq_false_iff, decide_eq_false_iff_not, decide_eq_false_iff_not]
 exact ⟨by omega, by omega⟩
theorem code_bit {d : List DeclD} {all : List ByteArray} (hl : all.length ≤ 4096) (s : ByteArray) (i : Nat) : (bitN (codeF d all s) i = true ↔ i < all.length ∧ amongF (belowF d s) (all.getD i ByteArray.empty) = true) ∧ Wds (codeF d all s) ∧ (codeF d all s).length ≤ 64 := by
 have h1 := selG_ok (low := belowF d s) (all := all) hl
 have h2 := ofL_bit h1 i
 have h3 : codeF d all s = normalF (ofL (selG (belowF d s) all all.length)) := by
  unfold codeF ofF
  rw [if_pos h1]
 refine ⟨?_, ?_, ?_⟩
 ·rw [h3, bit_normal, h2.1, decide_eq_true_eq, selG_mem]
 ·rw [h3]; exact normal_wds h2.2
 ·rw [h3]
  unfold normalF
  have := ofL_len (selG (belowF d s) all all.length)
  rw [List.length_take]
  omega
end
/- Plain: what is placed stands in order; what is below comes behind. -/
section
theorem dfind_congr (d : List DeclD) {s t : ByteArray} (h : strEq s t = true) : dfindF d s = dfindF d t := by
 have key : ∀ (l : List DeclD) (k : Nat), dfindG s k l = dfindG t k l := by
  intro l
  induction l with
  | nil => intro k; rfl
  | cons x l ih =>
   intro k
   simp only [dfindG]
   have : strEq x.1 s = strEq x.1 t := by
    cases h1 : strEq x.1 s with
    | true => exact (strEq_trans h1 h).symm
    | false =>
     cases h2 : strEq x.1 t with
     | false => rfl
     | true => rw [strEq_trans h2 (strEq_symm h)] at h1; cases h1
   rw [this, ih]
 exact key d 0
theorem getD_mem {α : Type} {l : List α} {d : α} {k : Nat} (h : k < l.length) : l.getD k d ∈ l := by
 rw [List.getD_eq_getElem?_getD, List.getElem?_eq_getElem h]
 exact List.getElem_mem h
theorem mem_getD {α : Type} {l : List α} (d : α) {x : α} (h : x ∈ l) : ∃ k, k < l.length ∧ l.getD k d = x := by
 obtain ⟨k, hk, e⟩ := List.mem_iff_getElem.1 h
 exact ⟨k, hk, by rw [List.getD_eq_getElem?_getD, List.getElem?_eq_getElem hk]; exact e⟩
theorem namesG_zero {d : List DeclD} : ∀ {r : List DeclD} {k : Nat}, namesG d k r = 0 → ∀ j, j < r.length → ¬ dfindF d (r.getD j d0).1 < ((k + j : Nat) : Int) ∧ namedF (r.getD j d0).1 false = true
 | [], _, _, j, hj => by simp at hj
 | x :: r, k, h, j, hj => by
  simp only [namesG] at h
  split at h
  ·cases h
  ·rename_i h1
   split at h
   ·cases h
   ·rename_i h2
    cases j with
    | zero => exact ⟨h2, by simpa using h1⟩
    | succ j =>
     have := namesG_zero h j (by simpa using hj)
     have e : k + (j + 1) = k + 1 + j := by omega
     rw [e]
     exact this
theorem dfindG_first (s : ByteArray) : ∀ (l : List DeclD) (k j : Nat), j < l.length → strEq (l.getD j d0).1 s = true → dfindG s k l ≤ ((k + j : Nat) : Int)
 | [], _, j, h, _ => by simp at h
 | x :: l, k, j, h, e => by
  simp only [dfindG]
  split
  ·omega
  ·rename_i h1
   cases j with
   | zero => exact absurd e h1
   | succ j =>
    have := dfindG_first s l (k + 1) j (by simpa using h) e
    omega
theorem dfind_at {d : List DeclD} (h : namesF d = 0) {j : Nat} (hj : j < d.length) : dfindF d (d.getD j d0).1 = (j : Int) := by
 have h1 := (namesG_zero h j hj).1
 have h2 := dfindG_first (d.getD j d0).1 d 0 j hj (strEq_refl _)
 rw [Nat.zero_add] at h1 h2
 have h2 : dfindF d (d.getD j d0).1 ≤ (j : Int) := h2
 omega
theorem decl_inj {d : List DeclD} (h : namesF d = 0) {x y : DeclD} (hx : x ∈ d) (hy : y ∈ d) (e : strEq x.1 y.1 = true) : x = y := by
 obtain ⟨i, hi, rfl⟩ := mem_getD d0 hx
 obtain ⟨j, hj, rfl⟩ := mem_getD d0 hy
 have h1 := dfind_at h hi
 have h2 := dfind_at h hj
 rw [dfind_congr d e, h2] at h1
 have : i = j := by omega
 rw [this]
theorem pick_spec2 (d : List DeclD) (out : List ByteArray) (h : (pickF d out).1 = true) : ∃ x ∈ d, x.1 = (pickF d out).2 ∧ amongF out x.1 = false ∧ readyF x out = true := by
 have key : ∀ (l : List DeclD) (s : Bool × ByteArray), (∀ x ∈ l, x ∈ d) → (s.1 = true → ∃ x ∈ d, x.1 = s.2 ∧ amongF out x.1 = false ∧ readyF x out = true) → (l.foldl (pickS out) s).1 = true →
   ∃ x ∈ d, x.1 = (l.foldl (pickS out) s).2 ∧ amongF out x.1 = false ∧ readyF x out = true := by
  intro l
  induction l with
  | nil => intro s _ hs h; exact hs h
  | cons y l ih =>
   intro s hl hs h
   rw [List.foldl_cons] at h ⊢
   refine ih _ (fun x hx => hl x (by simp [hx])) (fun hp => ?_) h
   unfold pickS at hp ⊢
   split
   ·rename_i hc
    rw [if_pos hc] at hp
    exact hs hp
   ·rename_i hc
    simp only
    have hc : amongF out y.1 = false ∧ readyF y out = true := by simpa using hc
    split
    ·exact ⟨y, hl y (by simp), rfl, hc⟩
    ·rename_i hc2
     have : s.1 = true := by
      cases hh : s.1 with
      | true => rfl
      | false => rw [hh] at hc2; simp at hc2
     exact hs this
 exact key d _ (fun _ h => h) (fun h => by cases h) h
def PL (d : List DeclD) (o : List ByteArray) : Prop := ∀ j, j < o.length → ∃ x ∈ d, x.1 = o.getD j ByteArray.empty ∧ amongF (o.take j) x.1 = false ∧ readyF x (o.take j) = true
theorem PL.snoc {d : List DeclD} {o : List ByteArray} (h : PL d o) {x : DeclD} (hx : x ∈ d) (h1 : amongF o x.1 = false) (h2 : readyF x o = true) : PL d (o ++ [x.1]) := by
 intro j hj
 by_cases hjo : j < o.length
 ·obtain ⟨y, hy, e1, e2, e3⟩ := h j hjo
  refine ⟨y, hy, ?_, ?_, ?_⟩
  ·rw [e1]; simp [List.getD_eq_getElem?_getD, List.getElem?_append, hjo]
  ·rw [List.take_append_of_le_length (by omega)]; exact e2
  ·rw [List.take_append_of_le_length (by omega)]; exact e3
 ·have hj2 : j = o.length := by simp at hj; omega
  subst hj2
  refine ⟨x, hx, ?_, ?_, ?_⟩
  ·simp [List.getD_eq_getElem?_getD]
  ·rw [List.take_append_of_le_length (by omega), List.take_length]; exact h1
  ·rw [List.take_append_of_le_length (by omega), List.take_length]; exact h2
theorem placedG_PL {d : List DeclD} : ∀ {n : Nat} {o : List ByteArray}, PL d o → PL d (placedG d n o)
 | 0, _, h => h
 | n + 1, o, h => by
  unfold placedG
  split
  ·rename_i hp
   obtain ⟨x, hx, e, h1, h2⟩ := pick_spec2 d o hp
   rw [← e]
   exact placedG_PL (h.snoc hx h1 h2)
  ·exact h
theorem placed_PL (d : List DeclD) : PL d (placedF d) := placedG_PL fun j hj => by simp at hj
theorem PL.ok {d : List DeclD} {o : List ByteArray} (h : PL d o) : AOk d o := by
 refine ⟨fun s hs => ?_, ?_⟩
 ·obtain ⟨j, hj, rfl⟩ := mem_getD ByteArray.empty hs
  obtain ⟨x, hx, e, -⟩ := h j hj
  rw [← e]
  exact dfind_self hx
 ·rw [List.pairwise_iff_getElem]
  intro i j hi hj hij
  obtain ⟨x, hx, e, h1, -⟩ := h j hj
  have h2 := amongF_false h1 o[i] (by rw [List.mem_take_iff_getElem]; exact ⟨i, by omega, rfl⟩)
  rw [e] at h2
  rw [List.getD_eq_getElem?_getD, List.getElem?_eq_getElem hj] at h2
  exact h2
theorem nodup_full {n : Nat} {l : List Nat} (h : l.Nodup) (hl : ∀ j ∈ l, j < n) (hn : n ≤ l.length) {k : Nat} (hk : k < n) : k ∈ l := by
 refine Classical.byContradiction fun hc => ?_
 have := nodup_len n (k :: l) (List.nodup_cons.2 ⟨hc, h⟩) (fun j hj => by
  rcases List.mem_cons.1 hj with rfl | hj
  ·exact hk
  ·exact hl j hj)
 simp at this
 omega
theorem placed_all {d : List DeclD} (hl : d.length ≤ (placedF d).length) {x : DeclD} (hx : x ∈ d) : ∃ s ∈ placedF d, strEq s x.1 = true := by
 have hA := (placed_PL d).ok
 have h1 := pw_map_nodup d hA
 have h0 := dfind_self hx
 have hd := dfindF_spec d x.1
 have h2 := nodup_full (n := d.length) h1 (fun j hj => by
  obtain ⟨s, hs, rfl⟩ := List.mem_map.1 hj
  have h1 := hA.decl s hs
  rcases dfindF_spec d s with g | ⟨_, g, _⟩ <;> omega) (by simpa using hl) (k := (dfindF d x.1).toNat) (by omega)
 obtain ⟨s, hs, e⟩ := List.mem_map.1 h2
 refine ⟨s, hs, ?_⟩
 rcases dfindF_spec d s with g | ⟨_, _, g1⟩
 ·have := hA.decl s hs; omega
 ·rcases hd with g | ⟨_, _, g2⟩
  ·omega
  ·rw [e] at g1
   exact strEq_trans (strEq_symm g1) g2
def rankF (d : List DeclD) (s : ByteArray) : Nat := (placedF d).findIdx fun x => strEq x s
theorem rank_congr (d : List DeclD) {s t : ByteArray} (h : strEq s t = true) : rankF d s = rankF d t := by
 unfold rankF
 congr 1
 funext x
 cases h1 : strEq x s with
 | true => exact (strEq_trans h1 h).symm
 | false =>
  cases h2 : strEq x t with
  | false => rfl
  | true => rw [strEq_trans h2 (strEq_symm h)] at h1; cases h1
theorem rank_super {d : List DeclD} (hn : namesF d = 0) (hl : d.length ≤ (placedF d).length) {x : DeclD} (hx : x ∈ d) {s : ByteArray} (hs : amongF x.2.1 s = true) : rankF d s < rankF d x.1 := by
 obtain ⟨t, ht, e⟩ := placed_all hl hx
 have hlt : rankF d x.1 < (placedF d).length := List.findIdx_lt_length_of_exists ⟨t, ht, e⟩
 have heq : strEq ((placedF d)[rankF d x.1]) x.1 = true := List.findIdx_getElem (w := hlt)
 obtain ⟨y, hy, e1, -, h3⟩ := placed_PL d (rankF d x.1) hlt
 rw [List.getD_eq_getElem?_getD, List.getElem?_eq_getElem hlt] at e1
 have e1 : y.1 = (placedF d)[rankF d x.1] := e1
 rw [← e1] at heq
 have hyx := decl_inj hn hy hx heq
 subst hyx
 obtain ⟨u, hu, eu⟩ := List.any_eq_true.1 hs
 have h4 : amongF ((placedF d).take (rankF d y.1)) u = true := List.all_eq_true.1 h3 u hu
 obtain ⟨v, hv, ev⟩ := List.any_eq_true.1 h4
 rw [List.mem_take_iff_getElem] at hv
 obtain ⟨i, hi, rfl⟩ := hv
 have hi2 : i < rankF d y.1 := by omega
 refine Nat.lt_of_le_of_lt ?_ hi2
 refine Classical.byContradiction fun hc => ?_
 have h5 := List.not_of_lt_findIdx (p := fun x => strEq x s) (xs := placedF d) (i := i) (by unfold rankF at hc; omega)
 have h6 : strEq ((placedF d)[i]) s = true := strEq_trans ev eu
 try simp only at h5
 rw [h6] at h5
 exact absurd h5 (by simp)
def BelI (d : List DeclD) (s x : ByteArray) : Prop := strEq s x = true ∨ rankF d s < rankF d x
theorem addB_BelI {d : List DeclD} (hn : namesF d = 0) (hl : d.length ≤ (placedF d).length) {s c : ByteArray} (hc : BelI d s c) {o : List ByteArray} (ho : ∀ x ∈ o, BelI d s x) {x : DeclD} (hx : x ∈ d) : ∀ y ∈ addB c o x, BelI d s y := by
 intro y hy
 unfold addB at hy
 split at hy
 ·rename_i h
  rw [Bool.and_eq_true] at h
  rcases List.mem_append.1 hy with hy | hy
  ·exact ho y hy
  ·have : y = x.1 := by simpa using hy
   subst this
   have h1 := rank_super hn hl hx h.1
   right
   rcases hc with hc | hc
   ·rw [rank_congr d hc]; exact h1
   ·omega
 ·exact ho y hy
theorem addBs_BelI {d : List DeclD} (hn : namesF d = 0) (hl : d.length ≤ (placedF d).length) {s c : ByteArray} (hc : BelI d s c) : ∀ {l : List DeclD} {o : List ByteArray}, (∀ x ∈ l, x ∈ d) → (∀ x ∈ o, BelI d s x) → ∀ y ∈ l.foldl (addB c) o, BelI d s y
 | [], _, _, ho => ho
 | x :: l, o, hx, ho => by
  rw [List.foldl_cons]
  exact addBs_BelI hn hl hc (fun y hy => hx y (by simp [hy])) (addB_BelI hn hl hc ho (hx x (by simp)))
theorem belowG_BelI {d : List DeclD} (hn : namesF d = 0) (hl : d.length ≤ (placedF d).length) {s : ByteArray} : ∀ {n i : Nat} {o : List ByteArray}, (∀ x ∈ o, BelI d s x) → ∀ y ∈ belowG d n i o, BelI d s y
 | 0, _, _, ho => ho
 | n + 1, i, o, ho => by
  unfold belowG
  split
  ·rename_i hi
   exact belowG_BelI hn hl (addBs_BelI hn hl (ho _ (getD_mem hi)) (fun _ h => h) ho)
  ·exact ho
theorem addB_sub {c : ByteArray} {o : List ByteArray} {x : DeclD} {y : ByteArray} (h : y ∈ o) : y ∈ addB c o x := by
 unfold addB
 split
 ·exact List.mem_append.2 (.inl h)
 ·exact h
theorem addBs_sub {c : ByteArray} {y : ByteArray} : ∀ {l : List DeclD} {o : List ByteArray}, y ∈ o → y ∈ l.foldl (addB c) o
 | [], _, h => h
 | x :: l, o, h => by rw [List.foldl_cons]; exact addBs_sub (addB_sub h)
theorem belowG_sub {d : List DeclD} {y : ByteArray} : ∀ {n i : Nat} {o : List ByteArray}, y ∈ o → y ∈ belowG d n i o
 | 0, _, _, h => h
 | n + 1, i, o, h => by
  unfold belowG
  split
  ·exact belowG_sub (addBs_sub h)
  ·exact h
theorem putF_mem {l : List ByteArray} {s x : ByteArray} (h : x ∈ putF l s) : x ∈ l ∨ x = s := by
  unfold putF at h
  split at h
  · exact .inl h
  · simp only [List.mem_append, List.mem_cons, List.mem_singleton] at h
    rcases h with h | h
    · first
        | exact .inl (List.mem_of_mem_take h)
        | (rcases h with h | h
           · exact .inl (List.mem_of_mem_take h)
           · exact .inr (by simpa using h))
    · first
        | exact .inl (List.mem_of_mem_drop h)
        | (rcases h with h | h
           · exact .inr h
           · exact .inl (List.mem_of_mem_drop h))
theorem putF_keep {l : List ByteArray} {s x : ByteArray} (h : x ∈ l) : x ∈ putF l s := by
 unfold putF
 split
 ·exact h
 ·have h2 : x ∈ l.take (atF l s) ∨ x ∈ l.drop (atF l s) := List.mem_append.1 (by rw [List.take_append_drop]; exact h)
  simp only [List.mem_append, List.mem_cons, List.mem_singleton]
  rcases h2 with h2 | h2 <;> simp [h2]
theorem putF_new {l : List ByteArray} {s : ByteArray} : amongF (putF l s) s = true := by
  unfold putF
  split
  · rename_i h
    first
      | exact any_of_get2 l ByteArray.empty _ h.1 h.2
      | (have h : atF l s < l.length ∧ strEq (l.getD (atF l s) ByteArray.empty) s = true := by simpa using h
         exact any_of_get2 l ByteArray.empty _ h.1 h.2)
  · unfold amongF
    rw [List.any_eq_true]
    exact ⟨s, by simp, strEq_refl s⟩
theorem among_mem {l : List ByteArray} {s : ByteArray} (h : s ∈ l) : amongF l s = true := List.any_eq_true.2 ⟨s, h, strEq_refl s⟩
theorem among_sub {l m : List ByteArray} {s : ByteArray} (hs : ∀ x ∈ l, x ∈ m) (h : amongF l s = true) : amongF m s = true := by
 obtain ⟨x, hx, e⟩ := List.any_eq_true.1 h
 exact List.any_eq_true.2 ⟨x, hs x hx, e⟩
theorem puts_mem : ∀ {l o : List ByteArray} {x : ByteArray}, x ∈ l.foldl putF o → x ∈ o ∨ x ∈ l
 | [], _, _, h => .inl h
 | y :: l, o, x, h => by
  rw [List.foldl_cons] at h
  rcases puts_mem h with h | h
  ·rcases putF_mem h with h | h
   ·exact .inl h
   ·exact .inr (by simp [h])
  ·exact .inr (by simp [h])
theorem puts_keep : ∀ {l o : List ByteArray} {x : ByteArray}, x ∈ o → x ∈ l.foldl putF o
 | [], _, _, h => h
 | y :: l, o, x, h => by rw [List.foldl_cons]; exact puts_keep (putF_keep h)
theorem puts_new : ∀ {l o : List ByteArray} {x : ByteArray}, x ∈ l → amongF (l.foldl putF o) x = true
 | [], _, _, h => by cases h
 | y :: l, o, x, h => by
  rw [List.foldl_cons]
  rcases List.mem_cons.1 h with rfl | h
  ·exact among_sub (fun z hz => puts_keep hz) (putF_new (l := o) (s := x))
  ·exact puts_new h
theorem below_self {d : List DeclD} {s : ByteArray} (h : 0 ≤ dfindF d s) : amongF (belowF d s) s = true := by
 unfold belowF
 rw [if_neg (by omega)]
 exact puts_new (belowG_sub (by simp))
theorem below_BelI {d : List DeclD} (hn : namesF d = 0) (hl : d.length ≤ (placedF d).length) {s x : ByteArray} (h : amongF (belowF d s) x = true) : BelI d s x := by
 obtain ⟨y, hy, e⟩ := List.any_eq_true.1 h
 have hb : BelI d s y := by
  unfold belowF at hy
  split at hy
  ·cases hy
  ·rcases puts_mem hy with hy | hy
   ·cases hy
   ·refine belowG_BelI hn hl (fun z hz => ?_) y hy
    have : z = s := by simpa using hz
    rw [this]
    exact .inl (strEq_refl s)
 rcases hb with hb | hb
 ·exact .inl (strEq_trans hb e)
 ·rw [rank_congr d e] at hb
  exact .inr hb
theorem namesL_mem {d : List DeclD} {s : ByteArray} (h : s ∈ namesL d) : ∃ x ∈ d, x.1 = s := by
 have key : ∀ (l : List DeclD) (o : List ByteArray), s ∈ l.foldl (fun o x => putF o x.1) o → s ∈ o ∨ ∃ x ∈ l, x.1 = s := by
  intro l
  induction l with
  | nil => intro o h; exact .inl h
  | cons x l ih =>
   intro o h
   rw [List.foldl_cons] at h
   rcases ih _ h with h | ⟨y, hy, e⟩
   ·rcases putF_mem h with h | h
    ·exact .inl h
    ·exact .inr ⟨x, by simp, h.symm⟩
   ·exact .inr ⟨y, by simp [hy], e⟩
 rcases key d [] h with h | h
 ·cases h
 ·exact h
theorem namesL_has {d : List DeclD} {x : DeclD} (h : x ∈ d) : amongF (namesL d) x.1 = true := by
 have keep : ∀ (l : List DeclD) (o : List ByteArray), ∀ y ∈ o, y ∈ l.foldl (fun o x => putF o x.1) o := by
  intro l
  induction l with
  | nil => intro o y h; exact h
  | cons x l ih => intro o y h; rw [List.foldl_cons]; exact ih _ y (putF_keep h)
 have key : ∀ (l : List DeclD) (o : List ByteArray), x ∈ l → amongF (l.foldl (fun o x => putF o x.1) o) x.1 = true := by
  intro l
  induction l with
  | nil => intro o h; cases h
  | cons y l ih =>
   intro o h
   rw [List.foldl_cons]
   rcases List.mem_cons.1 h with rfl | h
   ·exact among_sub (keep l _) (putF_new (l := o) (s := x.1))
   ·exact ih _ h
 exact key d [] h
theorem code_inj {d : List DeclD} (hn : namesF d = 0) (hl : d.length ≤ (placedF d).length) (h2 : d.length ≤ 256) {i j : Nat} (hi : i < (namesL d).length) (hj : j < (namesL d).length)
  (h : equalBF (codeF d (namesL d) ((namesL d).getD i ByteArray.empty)) (codeF d (namesL d) ((namesL d).getD j ByteArray.empty)) = true) : strEq ((namesL d).getD i ByteArray.empty) ((namesL d).getD j ByteArray.empty) = true := by
 have hnl := namesL_len d d.length
 rw [List.take_length] at hnl
 have hal : (namesL d).length ≤ 4096 := by omega
 generalize hs : (namesL d).getD i ByteArray.empty = s at *
 generalize ht : (namesL d).getD j ByteArray.empty = t at *
 have hsd : 0 ≤ dfindF d s := by
  obtain ⟨x, hx, e⟩ := namesL_mem (s := s) (by rw [← hs]; exact getD_mem hi)
  rw [← e]; exact dfind_self hx
 have htd : 0 ≤ dfindF d t := by
  obtain ⟨x, hx, e⟩ := namesL_mem (s := t) (by rw [← ht]; exact getD_mem hj)
  rw [← e]; exact dfind_self hx
 obtain ⟨c1, w1, -⟩ := code_bit (d := d) hal s i
 obtain ⟨c2, w2, -⟩ := code_bit (d := d) hal t i
 obtain ⟨c3, -, -⟩ := code_bit (d := d) hal s j
 obtain ⟨c4, -, -⟩ := code_bit (d := d) hal t j
 unfold equalBF at h
 rw [Bool.and_eq_true] at h
 have b1 := below_BelI hn hl (c2.1 (subset_bits w1 w2 h.1 (c1.2 ⟨hi, by rw [hs]; exact below_self hsd⟩))).2
 have b2 := below_BelI hn hl (c3.1 (subset_bits w2 w1 h.2 (c4.2 ⟨hj, by rw [ht]; exact below_self htd⟩))).2
 rw [hs] at b1
 rw [ht] at b2
 rcases b1 with b1 | b1
 ·exact strEq_symm b1
 ·rcases b2 with b2 | b2
  ·exact b2
  ·omega
end
/- Functions of grammarlabref04: name. -/
section
attribute [local go_sem] equalBS hasS maximalS cs0 cs1
def nmG (d : List DeclD) (all : List ByteArray) (codes : List (List Int)) (b : List Int) : Nat → Nat → List ByteArray → ByteArray ⊕ List ByteArray
 | 0, _, l => .inr l
 | n + 1, i, l => if equalBF (codes.getD i []) b = true then .inl (all.getD i ByteArray.empty) else nmG d all codes b n (i + 1) (if hasF b (i : Int) = true then l ++ [all.getD i ByteArray.empty] else l)
def joinA (l : List ByteArray) (s : ByteArray) (i : Nat) : ByteArray := (if 0 < (i : Int) then s ++ ByteArray.mk #[38] else s) ++ l.getD i ByteArray.empty
def joinF (l : List ByteArray) : ByteArray := (List.range l.length).foldl (joinA l) ByteArray.empty
def nameF (d : List DeclD) (all : List ByteArray) (codes : List (List Int)) (b : List Int) : ByteArray :=
 match nmG d all codes b all.length 0 [] with
 | .inl s => s
 | .inr l => joinF (maximalF d l)
theorem declaredF_mem {d : List DeclD} {x : ByteArray} : ∀ {l o : List ByteArray}, x ∈ l.foldl (declA d) o → x ∈ o ∨ x ∈ l
 | [], _, h => .inl h
 | y :: l, o, h => by
  rw [List.foldl_cons] at h
  rcases declaredF_mem h with h | h
  ·unfold declA at h
   split at h
   ·rcases putF_mem h with h | h
    ·exact .inl h
    ·exact .inr (by simp [h])
   ·exact .inl h
  ·exact .inr (by simp [h])
theorem maximalF_mem {d : List DeclD} {l : List ByteArray} {x : ByteArray} (h : x ∈ maximalF d l) : x ∈ l := by
 unfold maximalF maxG at h
 obtain ⟨i, hi, rfl⟩ := List.mem_map.1 h
 rw [List.mem_filter, List.mem_range] at hi
 rcases declaredF_mem (getD_mem (d := ByteArray.empty) hi.1) with h | h
 ·cases h
 ·exact h
theorem maximalF_len (d : List DeclD) (l : List ByteArray) : (maximalF d l).length ≤ l.length := Nat.le_trans (maxG_len _ _ _) (declaredF_len d l)
theorem size32 {l : List ByteArray} (h : ∀ s ∈ l, s.size ≤ 32) (k : Nat) : (l.getD k ByteArray.empty).size ≤ 32 := by
 rw [List.getD_eq_getElem?_getD]
 cases hh : l[k]? with
 | none => simp
 | some x => exact h x (List.mem_of_getElem? hh)
def joinG (l : List ByteArray) (n : Nat) : ByteArray := (List.range n).foldl (joinA l) ByteArray.empty
theorem joinG_succ (l : List ByteArray) (n : Nat) : joinG l (n + 1) = joinA l (joinG l n) n := by
 unfold joinG
 rw [List.range_succ, List.foldl_append]
 rfl
theorem joinG_size {l : List ByteArray} (h : ∀ s ∈ l, s.size ≤ 32) : ∀ n, (joinG l n).size ≤ 33 * n
 | 0 => by simp [joinG]
 | n + 1 => by
  have h1 := joinG_size h n
  have h2 := size32 h n
  rw [joinG_succ]
  unfold joinA
  split
  ·rw [ByteArray.size_append, ByteArray.size_append]
   have : (ByteArray.mk #[38]).size = 1 := rfl
   omega
  ·rw [ByteArray.size_append]
   omega
def nameOfS : Spec := { ins := [T22, T151, T191, T142], pre := fun (d, all, codes, b, _) => SupOk d ∧ List.length d ≤ 256 ∧ List.length all ≤ 256 ∧ List.length codes = List.length all ∧ (∀ s ∈ (all : List ByteArray), s.size ≤ 32) ∧ (∀ x ∈ (codes : List (List Int)), x.length ≤ 64) ∧ List.length b ≤ 64, out := fun (d, all, codes, b, _) => [.p T9 (nameF d all codes b)] }
theorem nameOf_ok : FnOk Tryz.prog 137 nameOfS := by
 refine fn_ok Tryz.func137 (by kernel_rfl) rfl Tryz.ntmps137 (by decide) (by kernel_rfl) (tyTab_ok [(186, equalBS), (187, hasS), (188, maximalS)]) (fns_cons equalB_ok (fns_cons has_ok (fns_cons maximal_ok fns_nil))) ?_
 rintro w0 O0 ⟨d, all, codes, b, u⟩ hc - ⟨hs, hd, hall, hcd, hsz, hcw, hb⟩
 have hall : all.length ≤ 256 := hall
 have hcd : codes.length = all.length := hcd
 simp only [nameOfS, entEnv]
 repeat' (first | exact trivial | refine eS rfl ?_ | refine ev_out_inv ?_ | refine rX [0, 1, 2, 3, 8, 9, 10, 11, 12, 16, 24, 31, 45, 49] hc ?_ ?_ | (refine rC (fun hcond => ?_) (fun hcond => ?_) <;> try (cases hcond; done)))
 refine ev_loop (ι := {x : Nat × List ByteArray // x.1 ≤ all.length ∧ x.2.length ≤ x.1 ∧ (∀ s ∈ x.2, s.size ≤ 32) ∧ nmG d all codes b (all.length - x.1) x.1 x.2 = nmG d all codes b all.length 0 []}) (fun x => ⟨[(0, .p T22 d), (1, .p T151 all), (2, .p T191 codes), (3, .p T142 b), (9, .sr 38 T9 0 x.1.2.length), (10, .p (.int .i64) (x.1.1 : Int))], [(38, .arr 9 T9 x.1.2)]⟩) (fun x => all.length - x.1.1) ⟨(0, []), by simp, by simp, by simp, rfl⟩ (ent_match [(38, .nil)] rfl rfl ?_ ?_) (fun x => ?_)
 ·first | exact eN | refine eM ?_
 ·first | exact eN | refine eM ?_
 ·obtain ⟨⟨i, l⟩, hi, hli, hls, hg⟩ := x
  simp only at hi hli hls hg
  have hstep : i < all.length → nmG d all codes b (all.length - i) i l = if equalBF (codes.getD i []) b = true then .inl (all.getD i ByteArray.empty) else nmG d all codes b (all.length - (i + 1)) (i + 1) (if hasF b (i : Int) = true then l ++ [all.getD i ByteArray.empty] else l) := by
   intro h
   rw [show all.length - i = (all.length - (i + 1)) + 1 by omega]
   rfl
  simp only
  repeat' (first | exact trivial | refine eS rfl ?_ | refine ev_out_inv ?_ | refine rX [0, 1, 2, 3, 8, 9, 10, 11, 12, 16, 24, 31, 45, 49] hc ?_ ?_ | (refine rC (fun hcond => ?_) (fun hcond => ?_) <;> try (cases hcond; done)))
  ·exact ⟨by rw [hcd]; exact hcond, Nat.le_trans (wid_getD hcw i) (by decide), Nat.le_trans hb (by decide)⟩
  ·assumption
  ·have hi2 : i < all.length := by exact eV
   have hr : nameF d all codes b = all.getD i ByteArray.empty := by
    unfold nameF
    rw [← hg, hstep hi2, if_pos hcond]
   exact ev_fin hc [.tmp 8] rfl (.inl rfl) (by simp) (by rw [hr]; first | exact eR | refine eRM ?_)
  ·have hi2 : i < all.length := by exact eV
   exact ⟨Int.ofNat_lt.2 hi2, by simp only [maxN]; omega⟩
  ·exact eV
  ·have hi2 : i < all.length := by exact eV
   have hn := hstep hi2
   rw [if_neg (by rw [‹equalBF _ _ = false›]; simp), if_pos hcond] at hn
   refine ⟨⟨(i + 1, l ++ [all.getD i ByteArray.empty]), by simp only; omega, by simp only [List.length_append, List.length_singleton]; omega, ?_, hn.symm.trans hg⟩, by simp only; omega, ent_match [(38, .nm 38)] rfl rfl ?_ ?_⟩
   ·intro s hs
    rcases List.mem_append.1 hs with hs | hs
    ·exact hls s hs
    ·have : s = all.getD i ByteArray.empty := by simpa using hs
     rw [this]
     exact size32 hsz i
   ·first | exact eN | refine eM ?_
   ·first | exact eN | refine eM ?_
  ·exact eV
  ·have hi2 : i < all.length := by exact eV
   have hn := hstep hi2
   rw [if_neg (by rw [‹equalBF _ _ = false›]; simp), if_neg (by rw [hcond]; simp)] at hn
   refine ⟨⟨(i + 1, l), by simp only; omega, by simp only; omega, hls, hn.symm.trans hg⟩, by simp only; omega, ent_match [(38, .nm 38)] rfl rfl ?_ ?_⟩
   ·first | exact eN | refine eM ?_
   ·first | exact eN | refine eM ?_
  ·have hr : nameF d all codes b = joinF (maximalF d l) := by
    unfold nameF
    rw [← hg]
    have : all.length - i = 0 := by exact eV
    rw [this]
    rfl
   refine frzE [38] ?_
   repeat' (first | exact trivial | refine eS rfl ?_ | refine ev_out_inv ?_ | refine rX [0, 1, 2, 3, 8, 9, 10, 11, 12, 16, 24, 31, 45, 49] hc ?_ ?_ | (refine rC (fun hcond => ?_) (fun hcond => ?_) <;> try (cases hcond; done)))
   ·exact ⟨hs, hd, by omega⟩
   ·have hmm : ∀ s ∈ maximalF d l, s.size ≤ 32 := fun s h => hls s (maximalF_mem h)
    have hml := maximalF_len d l
    have hjf : joinF (maximalF d l) = joinG (maximalF d l) (maximalF d l).length := rfl
    rw [hjf] at hr
    generalize maximalF d l = m at *
    refine ev_loop (ι := {k : Nat // k ≤ m.length}) (fun k => ⟨[(9, .p T151 m), (11, .p T9 (joinG m k.1)), (12, .p (.int .i64) (k.1 : Int))], []⟩) (fun k => m.length - k.1) ⟨0, Nat.zero_le _⟩ (ent_match [] rfl rfl ?_ ?_) (fun k => ?_)
    ·first | exact eN | refine eM ?_
    ·first | exact eN | refine eM ?_
     rfl
    ·obtain ⟨k, hk⟩ := k
     have hk : k ≤ m.length := hk
     have hjs := joinG_size hmm k
     have hss := joinG_succ m k
     have hs2 := size32 hmm k
     unfold joinA at hss
     simp only
     repeat' (first | exact trivial | refine eS rfl ?_ | refine ev_out_inv ?_ | refine rX [0, 1, 2, 3, 8, 9, 10, 11, 12, 16, 24, 31, 45, 49] hc ?_ ?_ | (refine rC (fun hcond => ?_) (fun hcond => ?_) <;> try (cases hcond; done)))
     ·have h1 : (ByteArray.mk #[38]).size = 1 := rfl
      rw [h1]
      simp only [maxN]
      exact eV
     ·refine ⟨by assumption, ?_⟩
      have h1 : (ByteArray.mk #[38]).size = 1 := rfl
      rw [ByteArray.size_append, h1]
      simp only [maxN]
      exact eV
     ·exact eV
     ·have hk2 : k < m.length := by exact eV
      rw [if_pos hcond] at hss
      refine ⟨⟨k + 1, hk2⟩, by simp only; omega, ent_match [] rfl rfl ?_ ?_⟩
      ·first | exact eN | refine eM ?_
      ·simp only [hss]
       first | exact eN | refine eM ?_
     ·refine ⟨by assumption, ?_⟩
      simp only [maxN]
      exact eV
     ·exact eV
     ·have hk2 : k < m.length := by exact eV
      rw [if_neg (Int.not_lt.2 hcond)] at hss
      refine ⟨⟨k + 1, hk2⟩, by simp only; omega, ent_match [] rfl rfl ?_ ?_⟩
      ·first | exact eN | refine eM ?_
      ·simp only [hss]
       first | exact eN | refine eM ?_
     ·have hk2 : k = m.length := by exact eV
      rw [← hk2] at hr
      exact ev_fin hc [.tmp 8] rfl (.inl rfl) (by simp) (by rw [hr]; first | exact eR | refine eRM ?_)
end
/- Functions of grammarlabref04: Codes. -/
section
attribute [local go_sem] check3S namesLS codeS familyS nameOfS beforeS
def insAt (x : CodedD) (out : List CodedD) : Nat → Nat
 | 0 => 0
 | n + 1 => if beforeF x (out.getD n c0) = true then insAt x out n else n + 1
def insC (out : List CodedD) (x : CodedD) : List CodedD := out.take (insAt x out out.length) ++ [x] ++ out.drop (insAt x out out.length)
def codesL (d : List DeclD) : List (List Int) := (namesL d).map fun s => codeF d (namesL d) s
def codedB (d : List DeclD) (all : List ByteArray) (codes : List (List Int)) (out : List CodedD) (b : List Int) : List CodedD := insC out (nameF d all codes b, b)
def codedA (d : List DeclD) : List CodedD → List Int → List CodedD := codedB d (namesL d) (codesL d)
theorem codedB_len (d : List DeclD) (all : List ByteArray) (codes : List (List Int)) : ∀ (l : List (List Int)) (o : List CodedD), (l.foldl (codedB d all codes) o).length = o.length + l.length
 | [], o => by simp
 | b :: l, o => by
  rw [List.foldl_cons, codedB_len d all codes l]
  unfold codedB insC
  simp only [List.length_append, List.length_take, List.length_drop, List.length_cons, List.length_nil]
  omega
theorem codedB_wid {d : List DeclD} {all : List ByteArray} {codes : List (List Int)} : ∀ {l : List (List Int)} {o : List CodedD}, (∀ c ∈ l, c.length ≤ 64) → (∀ y ∈ o, y.2.length ≤ 64) → ∀ y ∈ l.foldl (codedB d all codes) o, y.2.length ≤ 64
 | [], _, _, ho => ho
 | b :: l, o, hl, ho => by
  rw [List.foldl_cons]
  refine codedB_wid (fun c hc => hl c (by simp [hc])) (fun y hy => ?_)
  unfold codedB insC at hy
  simp only [List.mem_append, List.mem_singleton] at hy
  rcases hy with (hy | hy) | hy
  ·exact ho y (List.mem_of_mem_take hy)
  ·rw [hy]; exact hl b (by simp)
  ·exact ho y (List.mem_of_mem_drop hy)
theorem insAt_le (x : CodedD) (out : List CodedD) : ∀ n, insAt x out n ≤ n
 | 0 => Nat.le_refl _
 | n + 1 => by
  unfold insAt
  split
  ·exact Nat.le_succ_of_le (insAt_le x out n)
  ·exact Nat.le_refl _
def codesR (d : List DeclD) : List CodedD := (familyF (codesL d)).foldl (codedA d) []
def codesF (d : List DeclD) : List CodedD × Int :=
 if check3F d ≠ 0 then ([], check3F d) else if 256 < (familyF (codesL d)).length then ([], 7) else (codesR d, 0)
theorem named_size {s : ByteArray} {b : Bool} (h : namedF s b = true) : s.size ≤ 32 := by
 unfold namedF at h
 rw [Bool.and_eq_true] at h
 have h1 := h.1
 unfold namedH at h1
 simp only [Bool.not_eq_true', Bool.or_eq_false_iff, decide_eq_false_iff_not] at h1
 have := h1.1.1.2
 omega
theorem namesL_size {d : List DeclD} (hn : namesF d = 0) : ∀ s ∈ namesL d, s.size ≤ 32 := by
 intro s hs
 obtain ⟨x, hx, rfl⟩ := namesL_mem hs
 obtain ⟨j, hj, rfl⟩ := mem_getD d0 hx
 exact named_size (namesG_zero hn j hj).2
def codesT (d : List DeclD) (n : Nat) : List (List Int) := ((namesL d).take n).map fun s => codeF d (namesL d) s
theorem codesT_len {d : List DeclD} {n : Nat} (h : n ≤ (namesL d).length) : (codesT d n).length = n := by simp [codesT, h]
theorem codesT_succ {d : List DeclD} {n : Nat} (h : n < (namesL d).length) : codesT d (n + 1) = codesT d n ++ [codeF d (namesL d) ((namesL d).getD n ByteArray.empty)] := by
 unfold codesT
 rw [take_snoc _ ByteArray.empty h, List.map_append]
 rfl
theorem codesT_all (d : List DeclD) : codesT d (namesL d).length = codesL d := by simp [codesT, codesL]
theorem codesL_len (d : List DeclD) : (codesL d).length = (namesL d).length := by simp [codesL]
theorem codesL_wid {d : List DeclD} (h : d.length ≤ 256) : ∀ c ∈ codesL d, c.length ≤ 64 := by
 intro c hc
 unfold codesL at hc
 obtain ⟨s, -, rfl⟩ := List.mem_map.1 hc
 have hnl := namesL_len d d.length
 rw [List.take_length] at hnl
 exact (code_bit (d := d) (all := namesL d) (by omega) s 0).2.2
theorem famI_wid {i : Nat} : ∀ {n k : Nat} {l : List (List Int)}, (∀ c ∈ l, c.length ≤ 64) → ∀ c ∈ famI i n k l, c.length ≤ 64
 | 0, _, _, h => h
 | n + 1, k, l, h => by
  unfold famI
  split
  ·exact famI_wid (famK_wid h i k)
  ·exact h
theorem famG_wid : ∀ {n i : Nat} {l : List (List Int)}, (∀ c ∈ l, c.length ≤ 64) → ∀ c ∈ famG n i l, c.length ≤ 64
 | 0, _, _, h => h
 | n + 1, i, l, h => by
  unfold famG
  split
  ·exact famG_wid (famI_wid h)
  ·exact h
theorem insC_mem {out : List CodedD} {x y : CodedD} : y ∈ insC out x ↔ y = x ∨ y ∈ out := by
 unfold insC
 rw [List.mem_append, List.mem_append, List.mem_singleton]
 have h := List.mem_append (a := y) (s := out.take (insAt x out out.length)) (t := out.drop (insAt x out out.length))
 rw [List.take_append_drop] at h
 rw [h]
 constructor
 ·rintro ((h | h) | h)
  ·exact .inr (.inl h)
  ·exact .inl h
  ·exact .inr (.inr h)
 ·rintro (h | h | h)
  ·exact .inl (.inr h)
  ·exact .inl (.inl h)
  ·exact .inr h
def codesS : Spec := { ins := [T22], pre := fun _ => True, out := fun (d, _) => [.p T138 (codesF d).1, .p T79 (codesF d).2] }
theorem codes_ok : FnOk Tryz.prog 97 codesS := by
 refine fn_ok Tryz.func97 (by kernel_rfl) rfl Tryz.ntmps97 (by decide) (by kernel_rfl) (tyTab_ok [(133, check3S), (134, namesLS), (135, codeS), (136, familyS), (137, nameOfS), (138, beforeS)]) (fns_cons check3_ok (fns_cons namesL_ok (fns_cons code_ok (fns_cons family_ok (fns_cons nameOf_ok (fns_cons before_ok fns_nil)))))) ?_
 rintro w0 O0 ⟨d, u⟩ hc - -
 simp only [codesS, entEnv]
 repeat' (first | exact trivial | refine eS rfl ?_ | refine ev_out_inv ?_ | refine rX [0, 2, 3, 4, 5, 6, 7, 8, 9, 10, 11, 12, 13, 17, 24, 41, 45, 73] hc ?_ ?_ | (refine rC (fun hcond => ?_) (fun hcond => ?_) <;> try (cases hcond; done)))
 ·have h1 : codesF d = ([], check3F d) := by unfold codesF; rw [if_pos hcond]
  exact ev_fin hc [.tmp 2, .tmp 3] rfl (.inl rfl) (by simp) (by rw [h1]; first | exact eR | refine eRM ?_)
 ·have h3 : check3F d = 0 := by simpa using hcond
  obtain ⟨-, h2, -⟩ := check3_zero h3
  exact Nat.le_trans h2 (by decide)
 ·have h3 : check3F d = 0 := by simpa using hcond
  obtain ⟨hsup, hd, -, hn, -⟩ := check3_zero h3
  have hal := namesL_len d d.length
  rw [List.take_length] at hal
  have hsz := namesL_size hn
  refine ev_loop (ι := {n : Nat // n ≤ (namesL d).length}) (fun n => ⟨[(0, .p T22 d), (5, .p T151 (namesL d)), (6, .sr 36 T142 0 (codesT d n.1).length), (7, .p (.int .i64) (n.1 : Int))], [(36, .arr 142 T142 (codesT d n.1))]⟩) (fun n => (namesL d).length - n.1) ⟨0, Nat.zero_le _⟩ (ent_match [(36, .nil)] rfl rfl ?_ ?_) (fun n => ?_)
  ·first | exact eN | refine eM ?_
   rfl
  ·first | exact eN | refine eM ?_
   rfl
  ·obtain ⟨n, hnn⟩ := n
   have hcl := codesT_len hnn
   have hs := fun h => codesT_succ (d := d) (n := n) h
   simp only
   repeat' (first | exact trivial | refine eS rfl ?_ | refine ev_out_inv ?_ | refine rX [0, 2, 3, 4, 5, 6, 7, 8, 9, 10, 11, 12, 13, 17, 24, 41, 45, 73] hc ?_ ?_ | (refine rC (fun hcond => ?_) (fun hcond => ?_) <;> try (cases hcond; done)))
   ·refine ⟨hcond, ⟨hd, by dsimp only [Ty.den] at *; omega⟩, ?_⟩
    simp only [maxN]
    dsimp only [Ty.den] at *
    omega
   ·exact eV
   ·have hn2 : n < (namesL d).length := by exact eV
    have e := hs hn2
    refine ⟨⟨n + 1, by omega⟩, by simp only; omega, ent_match [(36, .nm 36)] rfl rfl ?_ ?_⟩
    ·simp only [e]
     first | exact eN | refine eM ?_
    ·simp only [e]
     first | exact eN | refine eM ?_
   ·have hn2 : n = (namesL d).length := by exact eV
    subst hn2
    rw [codesT_all]
    have hcL := codesL_len d
    have hwid := codesL_wid hd
    have hfw : ∀ c ∈ familyF (codesL d), c.length ≤ 64 := famG_wid hwid
    refine frzE [36] ?_
    repeat' (first | exact trivial | refine eS rfl ?_ | refine ev_out_inv ?_ | refine rX [0, 2, 3, 4, 5, 6, 7, 8, 9, 10, 11, 12, 13, 17, 24, 41, 45, 73] hc ?_ ?_ | (refine rC (fun hcond => ?_) (fun hcond => ?_) <;> try (cases hcond; done)))
    ·exact ⟨by omega, hwid⟩
    ·have h1 : codesF d = ([], 7) := by
      unfold codesF
      rw [if_neg (by rw [h3]; simp), if_pos (by omega)]
     exact ev_fin hc [.tmp 2, .tmp 3] rfl (.inl rfl) (by simp) (by rw [h1]; first | exact eR | refine eRM ?_)
    ·have hr : codesF d = ((familyF (codesL d)).foldl (codedB d (namesL d) (codesL d)) [], 0) := by
      unfold codesF
      rw [if_neg (by rw [h3]; simp), if_neg (by omega)]
      rfl
     generalize familyF (codesL d) = fam at *
     generalize codesL d = codes at *
     generalize namesL d = all at *
     refine ev_loop (ι := {k : Nat // k ≤ fam.length}) (fun k => ⟨[(0, .p T22 d), (5, .p T151 all), (6, .p T191 codes), (8, .p T191 fam), (9, .sr 9 T144 0 ((fam.take k.1).foldl (codedB d all codes) []).length), (10, .p (.int .i64) (k.1 : Int))], [(9, .arr 144 T144 ((fam.take k.1).foldl (codedB d all codes) []))]⟩) (fun k => fam.length - k.1) ⟨0, Nat.zero_le _⟩ (ent_match [(9, .nil)] rfl rfl ?_ ?_) (fun k => ?_)
     ·first | exact eN | refine eM ?_
      rfl
     ·first | exact eN | refine eM ?_
      rfl
     ·obtain ⟨k, hk⟩ := k
      have hol := codedB_len d all codes (fam.take k) []
      have htl : (fam.take k).length = k := by rw [List.length_take]; exact Nat.min_eq_left hk
      have how := codedB_wid (d := d) (all := all) (codes := codes) (l := fam.take k) (o := []) (fun c hc => hfw c (List.mem_of_mem_take hc)) (by simp)
      have hss := fun h : k < fam.length => fold_tk (codedB d all codes) fam [] [] h
      rw [htl] at hol
      simp only [List.length_nil, Nat.zero_add] at hol
      generalize ho : (fam.take k).foldl (codedB d all codes) [] = out at *
      simp only
      repeat' (first | exact trivial | refine eS rfl ?_ | refine ev_out_inv ?_ | refine rX [0, 2, 3, 4, 5, 6, 7, 8, 9, 10, 11, 12, 13, 17, 24, 41, 45, 73] hc ?_ ?_ | (refine rC (fun hcond => ?_) (fun hcond => ?_) <;> try (cases hcond; done)))
      ·exact ⟨hcond, ⟨hsup, hd, by omega, hcL, hsz, hwid, wid_getD hfw k⟩, hcond⟩
      ·have hk2 : k < fam.length := by exact eV
       have e := hss hk2
       have hbw := wid_getD hfw k
       generalize fam.getD k [] = b at *
       unfold codedB at e
       generalize nameF d all codes b = nm at *
       refine ev_loop (ι := {q : Nat // q ≤ out.length ∧ insAt (nm, b) out q = insAt (nm, b) out out.length}) (fun q => ⟨[(0, .p T22 d), (5, .p T151 all), (6, .p T191 codes), (8, .p T191 fam), (9, .sr 9 T144 0 out.length), (10, .p (.int .i64) (k : Int)), (11, .bp 11 [] 0), (12, .p (.int .i64) (q.1 : Int))], [(9, .arr 144 T144 out), (11, .box 144 true [.p T9 nm, .p T142 b])]⟩) (fun q => q.1) ⟨out.length, Nat.le_refl _, rfl⟩ (ent_match [(9, .nm 9), (11, .nm 11)] rfl rfl ?_ ?_) (fun q => ?_)
       ·first | exact eN | refine eM ?_
       ·first | exact eN | refine eM ?_
       ·obtain ⟨q, hq, hins⟩ := q
        have hq : q ≤ out.length := hq
        simp only
        repeat' (first | exact trivial | refine eS rfl ?_ | refine ev_out_inv ?_ | refine rX [0, 2, 3, 4, 5, 6, 7, 8, 9, 10, 11, 12, 13, 17, 24, 41, 45, 73] hc ?_ ?_ | (refine rC (fun hcond => ?_) (fun hcond => ?_) <;> try (cases hcond; done)))
        ·refine ⟨fun h => by omega, fun h => by exact eV, fun h => ⟨Nat.le_trans hbw (by decide), Nat.le_trans (how _ (mem_of_take_succ out c0 (k := ((q : Int) - 1).toNat) (by omega))) (by decide)⟩⟩
        ·omega
        ·obtain ⟨g1, g2⟩ := hcond
         obtain ⟨q, rfl⟩ : ∃ r, q = r + 1 := ⟨q - 1, by omega⟩
         have g3 : ((q + 1 : Nat) : Int) - 1 = (q : Int) := by omega
         refine ⟨⟨q, by omega, ?_⟩, Nat.lt_succ_self q, ent_match [(9, .nm 9), (11, .nm 11)] rfl rfl ?_ ?_⟩
         ·rw [← hins]
          rw [g3, Int.toNat_natCast] at g2
          show _ = if beforeF (nm, b) (out.getD q c0) = true then insAt (nm, b) out q else q + 1
          rw [if_pos g2]
         ·first | exact eN | refine eM ?_
         ·first | exact eN | refine eM ?_
          show (q : Int) + 1 - 1 = q
          omega
        ·refine ⟨Int.ofNat_le.2 hq, ?_⟩
         rw [List.length_take]
         simp only [maxN]
         omega
        ·rw [List.length_take]
         simp only [maxN]
         omega
        ·refine ⟨Int.ofNat_le.2 hq, ?_⟩
         rw [List.length_take, List.length_drop]
         simp only [maxN]
         omega
        ·omega
        ·have hpos : insAt (nm, b) out q = q := by
          cases q with
          | zero => rfl
          | succ q =>
           have g3 : ((q + 1 : Nat) : Int) - 1 = (q : Int) := by omega
           have := hcond (by omega)
           rw [g3, Int.toNat_natCast] at this
           show (if beforeF (nm, b) (out.getD q c0) = true then insAt (nm, b) out q else q + 1) = q + 1
           rw [if_neg (by rw [this]; simp)]
         unfold insC at e
         rw [← hins, hpos] at e
         refine ⟨⟨k + 1, by omega⟩, by simp only; omega, ent_match [(9, .nm 80)] rfl rfl ?_ ?_⟩
         ·first | exact eN | refine eM ?_
          exact e.symm
         ·first | exact eN | refine eM ?_
          have e2 := congrArg List.length e
          rw [List.length_append, List.length_append] at e2
          exact e2.symm
      ·have hk2 : k = fam.length := by exact eV
       rw [hk2, List.take_length] at ho
       rw [ho] at hr
       refine frzE [9] ?_
       exact ev_fin hc [.tmp 2, .tmp 3] rfl (.inl rfl) (by simp) (by rw [hr]; first | exact eR | refine eRM ?_)
end
/- Plain: each declared type has a number among the codes. -/
section
theorem coded_mem {d : List DeclD} : ∀ {l : List (List Int)} {o : List CodedD} {y : CodedD}, y ∈ l.foldl (codedA d) o ↔ y ∈ o ∨ ∃ b ∈ l, y = (nameF d (namesL d) (codesL d) b, b)
 | [], o, y => by simp
 | b :: l, o, y => by
  rw [List.foldl_cons, coded_mem]
  unfold codedA codedB
  rw [insC_mem]
  simp only [List.mem_cons]
  constructor
  ·rintro ((h | h) | ⟨c, hc, e⟩)
   ·exact .inr ⟨b, .inl rfl, h⟩
   ·exact .inl h
   ·exact .inr ⟨c, .inr hc, e⟩
  ·rintro (h | ⟨c, rfl | hc, e⟩)
   ·exact .inl (.inr h)
   ·exact .inl (.inl e)
   ·exact .inr ⟨c, hc, e⟩
theorem codesR_mem {d : List DeclD} {y : CodedD} : y ∈ codesR d ↔ ∃ b ∈ familyF (codesL d), y = (nameF d (namesL d) (codesL d) b, b) := by
 unfold codesR
 rw [coded_mem]
 simp
theorem codesR_len (d : List DeclD) : (codesR d).length = (familyF (codesL d)).length := by
 have h := codedB_len d (namesL d) (codesL d) (familyF (codesL d)) []
 rw [List.length_nil, Nat.zero_add] at h
 exact h
theorem famK_sub {l : List (List Int)} {i k : Nat} {c : List Int} (h : c ∈ l) : c ∈ famK l i k := by
 unfold famK
 split
 ·exact List.mem_append.2 (.inl h)
 ·exact h
theorem famI_sub {i : Nat} {c : List Int} : ∀ {n k : Nat} {l : List (List Int)}, c ∈ l → c ∈ famI i n k l
 | 0, _, _, h => h
 | n + 1, k, l, h => by
  unfold famI
  split
  ·exact famI_sub (famK_sub h)
  ·exact h
theorem famG_sub {c : List Int} : ∀ {n i : Nat} {l : List (List Int)}, c ∈ l → c ∈ famG n i l
 | 0, _, _, h => h
 | n + 1, i, l, h => by
  unfold famG
  split
  ·exact famG_sub (famI_sub h)
  ·exact h
theorem codesL_getD (d : List DeclD) {i : Nat} (h : i < (namesL d).length) : (codesL d).getD i [] = codeF d (namesL d) ((namesL d).getD i ByteArray.empty) := by
 unfold codesL
 simp [List.getD_eq_getElem?_getD, h]
theorem nmG_hit {d : List DeclD} (hn : namesF d = 0) (hl : d.length ≤ (placedF d).length) (h2 : d.length ≤ 256) {j : Nat} (hj : j < (namesL d).length) : ∀ (m i : Nat) (l : List ByteArray), i + m = (namesL d).length → i ≤ j →
  ∃ s, nmG d (namesL d) (codesL d) ((codesL d).getD j []) m i l = .inl s ∧ strEq s ((namesL d).getD j ByteArray.empty) = true
 | 0, i, l, h, hij => by omega
 | m + 1, i, l, h, hij => by
  unfold nmG
  split
  ·rename_i he
   refine ⟨_, rfl, ?_⟩
   rw [codesL_getD d (by omega), codesL_getD d hj] at he
   exact code_inj hn hl h2 (by omega) hj he
  ·rename_i he
   have hne : i ≠ j := by
    intro e
    subst e
    exact he (equalB_refl _)
   exact nmG_hit hn hl h2 hj m (i + 1) _ (by omega) (by omega)
theorem numG_lt (s : ByteArray) : ∀ (l : List CodedD) (k : Nat), numG s k l < ((k + l.length : Nat) : Int)
 | [], k => by simp only [numG]; omega
 | x :: l, k => by
  simp only [numG]
  split
  ·simp only [List.length_cons]; omega
  ·have := numG_lt s l (k + 1)
   simp only [List.length_cons]
   omega
theorem numG_ge (s : ByteArray) : ∀ (l : List CodedD) (k : Nat) (x : CodedD), x ∈ l → strEq x.1 s = true → 0 ≤ numG s k l
 | [], _, _, h, _ => by cases h
 | y :: l, k, x, h, e => by
  simp only [numG]
  split
  ·omega
  ·rename_i hy
   rcases List.mem_cons.1 h with rfl | h
   ·exact absurd e hy
   ·exact numG_ge s l (k + 1) x h e
theorem numberF_lt (l : List CodedD) (s : ByteArray) : numberF l s < (l.length : Int) := by
 have := numG_lt s l 0
 rw [Nat.zero_add] at this
 exact this
theorem number_name {d : List DeclD} (h : check3F d = 0) {s : ByteArray} (hs : amongF (namesL d) s = true) : 0 ≤ numberF (codesR d) s := by
 obtain ⟨-, h2, -, hn, hl⟩ := check3_zero h
 obtain ⟨t, ht, e⟩ := List.any_eq_true.1 hs
 obtain ⟨j, hj, rfl⟩ := mem_getD ByteArray.empty ht
 obtain ⟨u, hu, eu⟩ := nmG_hit hn hl h2 hj (namesL d).length 0 [] (by omega) (by omega)
 have hlen : (codesL d).length = (namesL d).length := by simp [codesL]
 refine numG_ge s (codesR d) 0 (u, (codesL d).getD j []) ?_ (strEq_trans eu e)
 rw [codesR_mem]
 refine ⟨(codesL d).getD j [], famG_sub (getD_mem (by omega)), ?_⟩
 unfold nameF
 rw [hu]
theorem number_decl {d : List DeclD} (h : check3F d = 0) {x : DeclD} (hx : x ∈ d) : 0 ≤ numberF (codesR d) x.1 := number_name h (namesL_has hx)
theorem codesF_zero {d : List DeclD} (h : (codesF d).2 = 0) : check3F d = 0 ∧ (familyF (codesL d)).length ≤ 256 ∧ (codesF d).1 = codesR d := by
 unfold codesF at h ⊢
 split at h
 ·rename_i h1; exact absurd h h1
 ·rename_i h1
  split at h
  ·cases h
  ·rename_i h2
   exact ⟨Classical.byContradiction h1, by omega, by rw [if_neg h1, if_neg h2]⟩
theorem fam_pos {d : List DeclD} (h : check3F d = 0) : 0 < (codesR d).length := by
 obtain ⟨-, -, hr, -, -⟩ := check3_zero h
 cases d with
 | nil => cases hr
 | cons x d =>
  have := number_decl h (x := x) (by simp)
  have h2 := numberF_lt (codesR (x :: d)) x.1
  omega
end
/- Functions of grammarlabref04: Supers. -/
section
attribute [local go_sem] subsS
def betw (l : List CodedD) (i k : Int) (m : Nat) : Bool := (m : Int) == i || (m : Int) == k || !subsF l k (m : Int) || !subsF l (m : Int) i
def dirA (l : List CodedD) (i k : Int) (n : Nat) : Bool := (List.range n).all (betw l i k)
def supB (l : List CodedD) (i : Int) (k : Nat) : Bool := !((k : Int) == i || !subsF l (k : Int) i) && dirA l i (k : Int) l.length
def supsG (l : List CodedD) (i : Int) (n : Nat) : List Int := ((List.range n).filter fun (k : Nat) => supB l i k).map fun (k : Nat) => (k : Int)
def supsF (l : List CodedD) (i : Int) : List Int := supsG l i l.length
theorem supsG_succ (l : List CodedD) (i : Int) (n : Nat) : supsG l i (n + 1) = supsG l i n ++ if supB l i n = true then [(n : Int)] else [] := by
 unfold supsG
 rw [List.range_succ, List.filter_append, List.map_append]
 congr 1
 rw [List.filter_cons, List.filter_nil]
 split <;> rfl
theorem supsG_len (l : List CodedD) (i : Int) (n : Nat) : (supsG l i n).length ≤ n := by
 unfold supsG
 rw [List.length_map]
 exact Nat.le_trans (List.length_filter_le _ _) (by simp)
theorem dirA_succ (l : List CodedD) (i k : Int) (n : Nat) : dirA l i k (n + 1) = (dirA l i k n && betw l i k n) := by
 unfold dirA
 rw [List.range_succ, List.all_append]
 simp
def supsS : Spec := { ins := [T138, T3], pre := fun (l, i, _) => ((0 : Int) ≤ i ∧ i < (List.length l : Int)) ∧ List.length l ≤ 256 ∧ (∀ x ∈ (l : List CodedD), x.2.length ≤ 64), out := fun (l, i, _) => [.p T40 (supsF l i)] }
theorem sups_ok : FnOk Tryz.prog 98 supsS := by
 refine fn_ok Tryz.func98 (by kernel_rfl) rfl Tryz.ntmps98 (by decide) (by kernel_rfl) (tyTab_ok [(139, subsS)]) (fns_cons subs_ok fns_nil) ?_
 rintro w0 O0 ⟨l, i, u⟩ hc - ⟨hi, hl, hx⟩
 have hl : l.length ≤ 256 := hl
 have hx2 : ∀ x ∈ (l : List CodedD), x.2.length ≤ 100000 := fun x h => Nat.le_trans (hx x h) (by decide)
 simp only [supsS, entEnv]
 repeat' (first | exact trivial | refine eS rfl ?_ | refine ev_out_inv ?_ | refine rX [0, 1, 4, 5, 6, 7, 8, 12, 24, 28, 56] hc ?_ ?_ | (refine rC (fun hcond => ?_) (fun hcond => ?_) <;> try (cases hcond; done)))
 refine ev_loop (ι := {k : Nat // k ≤ l.length}) (fun k => ⟨[(0, .p T138 l), (1, .p T3 i), (5, .sr 60 T3 0 (supsG l i k.1).length), (6, .p (.int .i64) (k.1 : Int))], [(60, .arr 3 T3 (supsG l i k.1))]⟩) (fun k => l.length - k.1) ⟨0, Nat.zero_le _⟩ (ent_match [(60, .nil)] rfl rfl ?_ ?_) (fun k => ?_)
 ·first | exact eN | refine eM ?_
  rfl
 ·first | exact eN | refine eM ?_
  rfl
 ·obtain ⟨k, hk⟩ := k
  have hk : k ≤ l.length := hk
  have hz := supsG_len l i k
  have hs := supsG_succ l i k
  simp only
  repeat' (first | exact trivial | refine eS rfl ?_ | refine ev_out_inv ?_ | refine rX [0, 1, 4, 5, 6, 7, 8, 12, 24, 28, 56] hc ?_ ?_ | (refine rC (fun hcond => ?_) (fun hcond => ?_) <;> try (cases hcond; done)))
  ·intro h
   exact ⟨by assumption, hi, hx2⟩
  ·exact eV
  ·have hk2 : k < l.length := by exact eV
   have hb : supB l i k = false := by
    unfold supB
    rw [Bool.and_eq_false_iff]
    left
    rw [Bool.not_eq_false', Bool.or_eq_true, beq_iff_eq, Bool.not_eq_true']
    exact hcond
   rw [hb, if_neg (by simp), List.append_nil] at hs
   refine ⟨⟨k + 1, by omega⟩, by simp only; omega, ent_match [(60, .nm 60)] rfl rfl ?_ ?_⟩
   ·simp only [hs]
    first | exact eN | refine eM ?_
   ·simp only [hs]
    first | exact eN | refine eM ?_
  ·have hk2 : k < l.length := by exact eV
   have hb : supB l i k = dirA l i (k : Int) l.length := by
    unfold supB
    rw [show ((k : Int) == i || !subsF l (k : Int) i) = false by
     rw [Bool.or_eq_false_iff, beq_eq_false_iff_ne, Bool.not_eq_false']; exact hcond]
    rfl
   refine ev_loop (ι := {m : Nat // m ≤ l.length}) (fun m => ⟨[(0, .p T138 l), (1, .p T3 i), (5, .sr 60 T3 0 (supsG l i k).length), (6, .p (.int .i64) (k : Int)), (7, .p .bool (dirA l i (k : Int) m.1)), (8, .p (.int .i64) (m.1 : Int))], [(60, .arr 3 T3 (supsG l i k))]⟩) (fun m => l.length - m.1) ⟨0, Nat.zero_le _⟩ (ent_match [(60, .nm 60)] rfl rfl ?_ ?_) (fun m => ?_)
   ·first | exact eN | refine eM ?_
   ·first | exact eN | refine eM ?_
    rfl
   ·obtain ⟨m, hm⟩ := m
    have hm : m ≤ l.length := hm
    have hds := dirA_succ l i (k : Int) m
    simp only
    repeat' (first | exact trivial | refine eS rfl ?_ | refine ev_out_inv ?_ | refine rX [0, 1, 4, 5, 6, 7, 8, 12, 24, 28, 56] hc ?_ ?_ | (refine rC (fun hcond => ?_) (fun hcond => ?_) <;> try (cases hcond; done)))
    ·exact ⟨fun h => ⟨by assumption, hcond, hx2⟩, fun h => ⟨hcond, hi, hx2⟩⟩
    ·exact eV
    ·have hm2 : m < l.length := by exact eV
     refine ⟨⟨m + 1, by omega⟩, by simp only; omega, ent_match [(60, .nm 60)] rfl rfl ?_ ?_⟩
     ·first | exact eN | refine eM ?_
     ·simp only [hds]
      unfold betw
      first | exact eN | refine eM ?_
    ·simp only [maxN]; dsimp only [Ty.den] at *; omega
    ·exact eV
    ·have hm2 : m = l.length := by exact eV
     subst hm2
     rw [hb, if_pos hcond] at hs
     refine ⟨⟨k + 1, by omega⟩, by simp only; omega, ent_match [(60, .nm 60)] rfl rfl ?_ ?_⟩
     ·simp only [hs]
      first | exact eN | refine eM ?_
     ·simp only [hs]
      first | exact eN | refine eM ?_
    ·exact eV
    ·have hm2 : m = l.length := by exact eV
     subst hm2
     rw [hb, if_neg (by rw [hcond]; simp), List.append_nil] at hs
     refine ⟨⟨k + 1, by omega⟩, by simp only; omega, ent_match [(60, .nm 60)] rfl rfl ?_ ?_⟩
     ·simp only [hs]
      first | exact eN | refine eM ?_
     ·simp only [hs]
      first | exact eN | refine eM ?_
  ·have hk2 : k = l.length := by exact eV
   subst hk2
   refine frzE [60] ?_
   exact ev_fin hc [.tmp 4] rfl (.inl rfl) (by simp) (by unfold supsF; first | exact eR | refine eRM ?_)
end
/- Functions of grammarlabref05: declarations. -/
section
attribute [local go_sem] namesLS featureS amongS
abbrev FV := ByteArray × ByteArray
abbrev f0V : FV := (ByteArray.empty, ByteArray.empty)
def dcG (all : List ByteArray) (l : List FV) : Nat → List FV → Int
 | _, [] => 0
 | k, x :: r => if namedF x.1 true = false then 1 else if ((l.take k).any fun y => strEq y.1 x.1) = true then 4 else if amongF all x.2 = false then 5 else dcG all l (k + 1) r
def dcsG (all : List ByteArray) : List DeclD → Int
 | [] => 0
 | x :: l => if dcG all x.2.2 0 x.2.2 ≠ 0 then dcG all x.2.2 0 x.2.2 else dcsG all l
def declsF (d : List DeclD) : Int := dcsG (namesL d) d
theorem dcG_step (all : List ByteArray) (l : List FV) {k : Nat} (h : k < l.length) : dcG all l k (l.drop k) = if namedF (l.getD k f0V).1 true = false then 1 else if ((l.take k).any fun y => strEq y.1 (l.getD k f0V).1) = true then 4 else if amongF all (l.getD k f0V).2 = false then 5 else dcG all l (k + 1) (l.drop (k + 1)) := by
 rw [List.drop_eq_getElem_cons h]
 have e : l.getD k f0V = l[k] := by simp [List.getD_eq_getElem?_getD, h]
 rw [e]
 rfl
theorem dcsG_step (all : List ByteArray) (l : List DeclD) {k : Nat} (h : k < l.length) : dcsG all (l.drop k) = if dcG all (l.getD k d0).2.2 0 (l.getD k d0).2.2 ≠ 0 then dcG all (l.getD k d0).2.2 0 (l.getD k d0).2.2 else dcsG all (l.drop (k + 1)) := by
 rw [List.drop_eq_getElem_cons h]
 have e : l.getD k d0 = l[k] := by simp [List.getD_eq_getElem?_getD, h]
 rw [e]
 rfl
def declsS : Spec := { ins := [T22], pre := fun (d, _) => List.length d ≤ 256, out := fun (d, _) => [.p T79 (declsF d)] }
theorem decls_ok : FnOk Tryz.prog 173 declsS := by
 refine fn_ok Tryz.func173 (by kernel_rfl) rfl Tryz.ntmps173 (by decide) (by kernel_rfl) (tyTab_ok [(134, namesLS), (204, featureS), (183, amongS)]) (fns_cons namesL_ok (fns_cons feature_ok (fns_cons among_ok fns_nil))) ?_
 rintro w0 O0 ⟨d, u⟩ hc ⟨⟨hdl, hall⟩, -⟩ hd
 have hd : d.length ≤ 256 := hd
 simp only [declsS, entEnv]
 repeat' (first | exact trivial | refine eS rfl ?_ | refine ev_out_inv ?_ | refine rX [0, 2, 3, 4, 5, 6, 7, 13, 24, 33, 36, 49, 57] hc ?_ ?_ | (refine rC (fun hcond => ?_) (fun hcond => ?_) <;> try (cases hcond; done)))
 ·exact Nat.le_trans hd (by decide)
 ·have hdf : declsF d = dcsG (namesL d) d := rfl
  rw [hdf]
  generalize namesL d = all at *
  refine ev_loop (ι := {i : Nat // i ≤ d.length ∧ dcsG all (d.drop i) = dcsG all d}) (fun i => ⟨[(0, .p T22 d), (3, .p T151 all), (4, .p (.int .i64) (i.1 : Int))], []⟩) (fun i => d.length - i.1) ⟨0, Nat.zero_le _, rfl⟩ (ent_match [] rfl rfl ?_ ?_) (fun i => ?_)
  ·first | exact eN | refine eM ?_
  ·first | exact eN | refine eM ?_
  ·obtain ⟨i, hi, hf⟩ := i
   simp only
   repeat' (first | exact trivial | refine eS rfl ?_ | refine ev_out_inv ?_ | refine rX [0, 2, 3, 4, 5, 6, 7, 13, 24, 33, 36, 49, 57] hc ?_ ?_ | (refine rC (fun hcond => ?_) (fun hcond => ?_) <;> try (cases hcond; done)))
   ·exact hcond
   ·have hi2 : i < d.length := by exact eV
    rw [dcsG_step all d hi2] at hf
    have hfl : (d.getD i d0).2.2.length ≤ maxN := (hall _ (mem_of_take_succ d d0 hi2)).2.2.1
    have hfe : (List.getD d i (ByteArray.empty, [], [])).2.2 = (d.getD i d0).2.2 := rfl
    rw [hfe]
    generalize (d.getD i d0).2.2 = l at *
    simp only [maxN] at hfl
    refine ev_loop (ι := {k : Nat // k ≤ l.length ∧ dcG all l k (l.drop k) = dcG all l 0 l}) (fun k => ⟨[(0, .p T22 d), (3, .p T151 all), (4, .p (.int .i64) (i : Int)), (5, .p T152 l), (6, .p (.int .i64) (k.1 : Int))], []⟩) (fun k => l.length - k.1) ⟨0, Nat.zero_le _, rfl⟩ (ent_match [] rfl rfl ?_ ?_) (fun k => ?_)
    ·first | exact eN | refine eM ?_
    ·first | exact eN | refine eM ?_
    ·obtain ⟨k, hk, hg⟩ := k
     have hstep := fun h : k < l.length => dcG_step all l h
     simp only
     repeat' (first | exact trivial | refine eS rfl ?_ | refine ev_out_inv ?_ | refine rX [0, 2, 3, 4, 5, 6, 7, 13, 24, 33, 36, 49, 57] hc ?_ ?_ | (refine rC (fun hcond => ?_) (fun hcond => ?_) <;> try (cases hcond; done)))
     ·exact hcond
     ·have hk2 : k < l.length := by exact eV
      rw [hstep hk2, if_pos hcond] at hg
      rw [← hg, if_pos (by decide)] at hf
      exact ev_fin hc [.tmp 2] rfl (.inl rfl) (by simp) (by rw [← hf]; first | exact eR | refine eRM ?_)
     ·have hk2 : k < l.length := by exact eV
      have hkI : (k : Int) < (l.length : Int) := Int.ofNat_lt.2 hk2
      rw [hstep hk2, if_neg (by rw [hcond]; simp)] at hg
      refine ev_loop (ι := {m : Nat // m ≤ k ∧ ((l.take m).any fun y => strEq y.1 (l.getD k f0V).1) = false}) (fun m => ⟨[(0, .p T22 d), (3, .p T151 all), (4, .p (.int .i64) (i : Int)), (5, .p T152 l), (6, .p (.int .i64) (k : Int)), (7, .p (.int .i64) (m.1 : Int))], []⟩) (fun m => k - m.1) ⟨0, Nat.zero_le _, rfl⟩ (ent_match [] rfl rfl ?_ ?_) (fun m => ?_)
      ·first | exact eN | refine eM ?_
      ·first | exact eN | refine eM ?_
      ·obtain ⟨m, hm, hany⟩ := m
       have hstep2 := fun h : m < l.length => any_take2 l f0V (fun y => strEq y.1 (l.getD k f0V).1) h
       simp only
       repeat' (first | exact trivial | refine eS rfl ?_ | refine ev_out_inv ?_ | refine rX [0, 2, 3, 4, 5, 6, 7, 13, 24, 33, 36, 49, 57] hc ?_ ?_ | (refine rC (fun hcond => ?_) (fun hcond => ?_) <;> try (cases hcond; done)))
       ·have h1 : (m : Int) < (k : Int) := hcond
        exact ⟨by exact eV, hkI⟩
       ·have hm2 : m < k := Int.ofNat_lt.1 (by assumption)
        have h2 := hstep2 (by omega)
        have h3 : ((l.take k).any fun y => strEq y.1 (l.getD k f0V).1) = true := by
         rw [List.any_eq_true]
         exact ⟨l.getD m f0V, by
          rw [List.mem_take_iff_getElem]
          refine ⟨m, by omega, ?_⟩
          simp [List.getD_eq_getElem?_getD, show m < l.length by omega], hcond⟩
        rw [if_pos h3] at hg
        rw [← hg, if_pos (by decide)] at hf
        exact ev_fin hc [.tmp 2] rfl (.inl rfl) (by simp) (by rw [← hf]; first | exact eR | refine eRM ?_)
       ·omega
       ·have hm2 : m < k := Int.ofNat_lt.1 (by assumption)
        have h2 := hstep2 (by omega)
        refine ⟨⟨m + 1, by omega, ?_⟩, by simp only; omega, ent_match [] rfl rfl ?_ ?_⟩
        ·rw [h2, hany]
         exact hcond
        ·first | exact eN | refine eM ?_
        ·first | exact eN | refine eM ?_
       ·exact hkI
       ·have hm2 : m = k := by omega
        subst hm2
        rw [if_neg (by rw [hany]; simp), if_pos hcond] at hg
        rw [← hg, if_pos (by decide)] at hf
        exact ev_fin hc [.tmp 2] rfl (.inl rfl) (by simp) (by rw [← hf]; first | exact eR | refine eRM ?_)
       ·have := hdl
        simp only [maxN] at this
        omega
       ·have hm2 : m = k := by omega
        subst hm2
        rw [if_neg (by rw [hany]; simp), if_neg (by rw [hcond]; simp)] at hg
        refine ⟨⟨m + 1, by omega, hg⟩, by simp only; omega, ent_match [] rfl rfl ?_ ?_⟩
        ·first | exact eN | refine eM ?_
        ·first | exact eN | refine eM ?_
     ·omega
     ·have hk2 : l.drop k = [] := List.drop_eq_nil_of_le (Int.ofNat_le.1 hcond)
      rw [hk2] at hg
      rw [← hg, if_neg (by simp [dcG])] at hf
      refine ⟨⟨i + 1, by omega, hf⟩, by simp only; omega, ent_match [] rfl rfl ?_ ?_⟩
      ·first | exact eN | refine eM ?_
      ·first | exact eN | refine eM ?_
   ·have hk2 : d.drop i = [] := List.drop_eq_nil_of_le (by exact eV)
    rw [hk2] at hf
    exact ev_fin hc [.tmp 2] rfl (.inl rfl) (by simp) (by rw [← hf]; first | exact eR | refine eRM ?_; rfl)
end
/- Functions of grammarlabref05: intro. -/
section
attribute [local go_sem] valueS putS maximalS cs0
def userA (s : ByteArray) (o : List ByteArray) (x : DeclD) : List ByteArray := if (valueF x s).2 = true then putF o x.1 else o
def usersF (d : List DeclD) (s : ByteArray) : List ByteArray := d.foldl (userA s) []
theorem usersF_len (s : ByteArray) (d : List DeclD) (k : Nat) : (usersF (d.take k) s).length ≤ k := by
 have key : ∀ (l : List DeclD) (o : List ByteArray), (l.foldl (userA s) o).length ≤ o.length + l.length := by
  intro l
  induction l with
  | nil => intro o; simp
  | cons x l ih =>
   intro o
   have h1 := ih (userA s o x)
   have h2 : (userA s o x).length ≤ o.length + 1 := by
    unfold userA
    split
    ·exact putF_len o x.1
    ·omega
   simp only [List.foldl_cons, List.length_cons]
   omega
 have h1 := key (d.take k) []
 have h2 := List.length_take_le k d
 unfold usersF
 simp only [List.length_nil] at h1
 omega
def introF (d : List DeclD) (s : ByteArray) : ByteArray × Bool := if (maximalF d (usersF d s)).length = 1 then ((maximalF d (usersF d s)).getD 0 ByteArray.empty, true) else (ByteArray.empty, false)
def introS : Spec := { ins := [T22, T9], pre := fun (d, _, _) => SupOk d ∧ List.length d ≤ 256, out := fun (d, s, _) => [.p T9 (introF d s).1, .p .bool (introF d s).2] }
theorem intro_ok : FnOk Tryz.prog 140 introS := by
 refine fn_ok Tryz.func140 (by kernel_rfl) rfl Tryz.ntmps140 (by decide) (by kernel_rfl) (tyTab_ok [(175, valueS), (174, putS), (188, maximalS)]) (fns_cons value_ok (fns_cons put_ok (fns_cons maximal_ok fns_nil))) ?_
 rintro w0 O0 ⟨d, s, u⟩ hc - ⟨hsup, hd⟩
 have hd : d.length ≤ 256 := hd
 simp only [introS, entEnv]
 repeat' (first | exact trivial | refine eS rfl ?_ | refine ev_out_inv ?_ | refine rX [0, 1, 4, 5, 6, 7, 9, 10, 14, 26, 39] hc ?_ ?_ | (refine rC (fun hcond => ?_) (fun hcond => ?_) <;> try (cases hcond; done)))
 refine ev_loop (ι := {i : Nat // i ≤ d.length}) (fun i => ⟨[(0, .p T22 d), (1, .p T9 s), (6, .p T151 (usersF (d.take i.1) s)), (7, .p (.int .i64) (i.1 : Int))], []⟩) (fun i => d.length - i.1) ⟨0, Nat.zero_le _⟩ (ent_match [] rfl rfl ?_ ?_) (fun i => ?_)
 ·first | exact eN | refine eM ?_
 ·first | exact eN | refine eM ?_
  rfl
 ·obtain ⟨i, hi⟩ := i
  have hi : i ≤ d.length := hi
  have hn := usersF_len s d i
  have hs := fun h : i < d.length => fold_tk (userA s) d d0 [] h
  have hfe : ∀ e, usersF e s = e.foldl (userA s) [] := fun _ => rfl
  rw [← hfe, ← hfe] at hs
  unfold userA at hs
  simp only
  repeat' (first | exact trivial | refine eS rfl ?_ | refine ev_out_inv ?_ | refine rX [0, 1, 4, 5, 6, 7, 9, 10, 14, 26, 39] hc ?_ ?_ | (refine rC (fun hcond => ?_) (fun hcond => ?_) <;> try (cases hcond; done)))
  ·exact hcond
  ·exact ⟨by assumption, by omega⟩
  ·exact eV
  ·have hi2 : i < d.length := by exact eV
   have e := hs hi2
   rw [if_pos hcond] at e
   refine ⟨⟨i + 1, by omega⟩, by simp only; omega, ent_match [] rfl rfl ?_ ?_⟩
   ·first | exact eN | refine eM ?_
   ·simp only [e]
    first | exact eN | refine eM ?_
  ·exact eV
  ·have hi2 : i < d.length := by exact eV
   have e := hs hi2
   rw [if_neg (by rw [hcond]; simp)] at e
   refine ⟨⟨i + 1, by omega⟩, by simp only; omega, ent_match [] rfl rfl ?_ ?_⟩
   ·first | exact eN | refine eM ?_
   ·simp only [e]
    first | exact eN | refine eM ?_
  ·exact ⟨hsup, hd, by omega⟩
  ·have hi2 : d.take i = d := List.take_of_length_le (by exact eV)
   rw [hi2] at hcond ⊢
   have h1 : introF d s = (ByteArray.empty, false) := by
    unfold introF
    rw [if_neg (by omega)]
   exact ev_fin hc [.tmp 4, .tmp 5] rfl (.inl rfl) (by simp) (by rw [h1]; first | exact eR | refine eRM ?_; first | rfl | exact ⟨rfl, rfl⟩)
  ·have h2 : ((maximalF d (usersF (d.take i) s)).length : Int) = 1 := by simpa using hcond
   have h3 : (0 : Int) < ((maximalF d (usersF (d.take i) s)).length : Int) := by rw [h2]; decide
   exact h3
  ·have hi2 : d.take i = d := List.take_of_length_le (by exact eV)
   rw [hi2] at hcond ⊢
   have h2 : ((maximalF d (usersF d s)).length : Int) = 1 := by simpa using hcond
   have h1 : introF d s = ((maximalF d (usersF d s)).getD 0 ByteArray.empty, true) := by
    unfold introF
    rw [if_pos (by omega)]
   exact ev_fin hc [.tmp 4, .tmp 5] rfl (.inl rfl) (by simp) (by rw [h1]; first | exact eR | refine eRM ?_)
end
/- Functions of grammarlabref05: inherited. -/
section
attribute [local go_sem] valueS numberS subsS andS
def inhA (l : List CodedD) (t : Int) (s : ByteArray) (o : List Int × Bool) (x : DeclD) : List Int × Bool :=
 if (!(valueF x s).2 || !subsF l (numberF l x.1) t) = true then o else (andF o.1 (l.getD (numberF l (valueF x s).1).toNat c0).2, true)
def inhF (d : List DeclD) (l : List CodedD) (t : Int) (s : ByteArray) : List Int × Bool := d.foldl (inhA l t s) ((l.getD 0 c0).2, false)
def NrOk (d : List DeclD) (l : List CodedD) : Prop := (∀ x ∈ d, 0 ≤ numberF l x.1) ∧ ∀ x ∈ d, ∀ y ∈ x.2.2, 0 ≤ numberF l y.2
theorem valG_mem (s : ByteArray) : ∀ (l : List (ByteArray × ByteArray)), (valG s l).2 = true → ∃ y ∈ l, y.2 = (valG s l).1
 | [], h => by cases h
 | x :: l, h => by
  simp only [valG] at h ⊢
  split at h
  ·rename_i h1
   rw [if_pos h1]
   exact ⟨x, by simp, rfl⟩
  ·rename_i h1
   rw [if_neg h1]
   obtain ⟨y, hy, e⟩ := valG_mem s l h
   exact ⟨y, by simp [hy], e⟩
theorem NrOk.value {d : List DeclD} {l : List CodedD} (h : NrOk d l) {x : DeclD} (hx : x ∈ d) {s : ByteArray} (hv : (valueF x s).2 = true) : 0 ≤ numberF l (valueF x s).1 := by
 obtain ⟨y, hy, e⟩ := valG_mem s x.2.2 hv
 have := h.2 x hx y hy
 rw [e] at this
 exact this
theorem inhA_len {l : List CodedD} (t : Int) (s : ByteArray) (x : DeclD) {o : List Int × Bool} (h : o.1.length ≤ 64) : (inhA l t s o x).1.length ≤ 64 := by
 unfold inhA
 split
 ·exact h
 ·exact Nat.le_trans (andF_len _ _) h
theorem inhs_len {l : List CodedD} (t : Int) (s : ByteArray) : ∀ (d : List DeclD) {o : List Int × Bool}, o.1.length ≤ 64 → (d.foldl (inhA l t s) o).1.length ≤ 64
 | [], _, h => h
 | x :: d, _, h => by rw [List.foldl_cons]; exact inhs_len t s d (inhA_len t s x h)
theorem numG_lt1 (s : ByteArray) : ∀ (l : List CodedD) (k : Nat), numG s k l < ((k + l.length : Nat) : Int)
 | [], k => by simp only [numG]; omega
 | x :: l, k => by
  simp only [numG]
  split
  ·simp only [List.length_cons]; omega
  ·have := numG_lt1 s l (k + 1)
   simp only [List.length_cons]
   omega
theorem numberF_lt1 (l : List CodedD) (s : ByteArray) : numberF l s < (l.length : Int) := by
 have := numG_lt1 s l 0
 rw [Nat.zero_add] at this
 exact this
def inhS : Spec := { ins := [T22, T138, T3, T9], pre := fun (d, l, t, _, _) => NrOk d l ∧ ((0 : Int) ≤ t ∧ t < (List.length l : Int)) ∧ List.length l ≤ 256 ∧ (∀ x ∈ (l : List CodedD), x.2.length ≤ 64), out := fun (d, l, t, s, _) => [.p T142 (inhF d l t s).1, .p .bool (inhF d l t s).2] }
theorem inh_ok : FnOk Tryz.prog 131 inhS := by
 refine fn_ok Tryz.func131 (by kernel_rfl) rfl Tryz.ntmps131 (by decide) (by kernel_rfl) (tyTab_ok [(175, valueS), (141, numberS), (139, subsS), (143, andS)]) (fns_cons value_ok (fns_cons number_ok (fns_cons subs_ok (fns_cons and_ok fns_nil)))) ?_
 rintro w0 O0 ⟨d, l, t, s, u⟩ hc ⟨⟨hdl, hall⟩, -⟩ ⟨hnum, ht, hl, hx⟩
 have hl : l.length ≤ 256 := hl
 have hx2 : ∀ x ∈ (l : List CodedD), x.2.length ≤ 100000 := fun x h => Nat.le_trans (hx x h) (by decide)
 have hlp : 0 < List.length l := Int.ofNat_lt.1 (Int.lt_of_le_of_lt ht.1 ht.2)
 simp only [maxN] at hdl
 simp only [inhS, entEnv]
 repeat' (first | exact trivial | refine eS rfl ?_ | refine ev_out_inv ?_ | refine rX [0, 1, 2, 3, 8, 9, 10, 11, 12, 13, 14, 22, 48] hc ?_ ?_ | (refine rC (fun hcond => ?_) (fun hcond => ?_) <;> try (cases hcond; done)))
 ·exact Int.ofNat_lt.2 hlp
 ·have hif : inhF d l t s = d.foldl (inhA l t s) ((l.getD 0 c0).2, false) := rfl
  have hc0 : (l.getD 0 c0).2.length ≤ 64 := hx _ (mem_of_take_succ l c0 hlp)
  have hc1 : (List.getD l 0 (ByteArray.empty, [])).2 = (l.getD 0 c0).2 := rfl
  rw [hc1]
  generalize (l.getD 0 c0).2 = b0 at *
  refine ev_loop (ι := {i : Nat // i ≤ d.length}) (fun i => ⟨[(0, .p T22 d), (1, .p T138 l), (2, .p T3 t), (3, .p T9 s), (10, .p .bool ((d.take i.1).foldl (inhA l t s) (b0, false)).2), (11, .p T142 ((d.take i.1).foldl (inhA l t s) (b0, false)).1), (12, .p (.int .i64) (i.1 : Int))], []⟩) (fun i => d.length - i.1) ⟨0, Nat.zero_le _⟩ (ent_match [] rfl rfl ?_ ?_) (fun i => ?_)
  ·first | exact eN | refine eM ?_
  ·first | exact eN | refine eM ?_
   exact ⟨rfl, rfl⟩
  ·obtain ⟨i, hi⟩ := i
   have hi : i ≤ d.length := hi
   have hlen := inhs_len (l := l) t s (d.take i) (o := (b0, false)) hc0
   have hs := fun h : i < d.length => fold_tk (inhA l t s) d d0 (b0, false) h
   have hnx := fun h : i < d.length => hnum.1 _ (mem_of_take_succ d d0 h)
   have hnv := fun (h : i < d.length) (g : (valueF (d.getD i d0) s).2 = true) => hnum.value (mem_of_take_succ d d0 h) g
   have hia : ∀ o x, inhA l t s o x = (if (!(valueF x s).2 || !subsF l (numberF l x.1) t) = true then o else (andF o.1 (l.getD (numberF l (valueF x s).1).toNat c0).2, true)) := fun _ _ => rfl
   generalize ho : (d.take i).foldl (inhA l t s) (b0, false) = o at *
   simp only
   repeat' (first | exact trivial | refine eS rfl ?_ | refine ev_out_inv ?_ | refine rX [0, 1, 2, 3, 8, 9, 10, 11, 12, 13, 14, 22, 48] hc ?_ ?_ | (refine rC (fun hcond => ?_) (fun hcond => ?_) <;> try (cases hcond; done)))
   ·exact hcond
   ·have hi2 : i < d.length := Int.ofNat_lt.1 hcond
    exact ⟨fun _ => hcond, fun _ => ⟨⟨hnx hi2, numberF_lt1 _ _⟩, ht, hx2⟩⟩
   ·exact eV
   ·have hi2 : i < d.length := Int.ofNat_lt.1 (by assumption)
    have e := hs hi2
    rw [hia, if_pos (by rw [Bool.or_eq_true, Bool.not_eq_true', Bool.not_eq_true']; exact hcond)] at e
    refine ⟨⟨i + 1, by omega⟩, by simp only; omega, ent_match [] rfl rfl ?_ ?_⟩
    ·first | exact eN | refine eM ?_
    ·first | exact eN | refine eM ?_
     rw [e]
     exact ⟨rfl, rfl⟩
   ·have hi2 : i < d.length := Int.ofNat_lt.1 (by assumption)
    exact ⟨⟨hnv hi2 hcond.1, numberF_lt1 _ _⟩, Nat.le_trans hlen (by decide)⟩
   ·exact eV
   ·have hi2 : i < d.length := Int.ofNat_lt.1 (by assumption)
    have e := hs hi2
    have hneg : ¬ (!(valueF (d.getD i d0) s).2 || !subsF l (numberF l (d.getD i d0).1) t) = true := by
     rw [Bool.or_eq_true, Bool.not_eq_true', Bool.not_eq_true']
     rintro (h | h)
     ·rw [show (valueF (d.getD i d0) s).2 = true from hcond.1] at h; cases h
     ·rw [show subsF l (numberF l (d.getD i d0).1) t = true from hcond.2] at h; cases h
    rw [hia, if_neg hneg] at e
    refine ⟨⟨i + 1, by omega⟩, by simp only; omega, ent_match [] rfl rfl ?_ ?_⟩
    ·first | exact eN | refine eM ?_
    ·first | exact eN | refine eM ?_
     rw [e]
     exact ⟨rfl, rfl⟩
   ·have hi2 : d.take i = d := List.take_of_length_le (Int.ofNat_le.1 hcond)
    rw [hi2] at ho
    rw [ho] at hif
    exact ev_fin hc [.tmp 8, .tmp 9] rfl (.inl rfl) (by simp) (by rw [hif]; first | exact eR | refine eRM ?_)
end
/- Plain: what passes grammarlabref04.Codes and the checks of grammarlabref05. -/
section
theorem sizesG_zero : ∀ {l : List DeclD}, sizesG l = 0 → ∀ x ∈ l, x.2.1.length ≤ 256 ∧ x.2.2.length ≤ 256
 | [], _, x, hx => by cases hx
 | y :: l, h, x, hx => by
  simp only [sizesG] at h
  split at h
  ·cases h
  ·rename_i h1
   rcases List.mem_cons.1 hx with rfl | hx
   ·exact ⟨by omega, by omega⟩
   ·exact sizesG_zero h x hx
theorem check3_sizes {d : List DeclD} (h : check3F d = 0) : ∀ x ∈ d, x.2.1.length ≤ 256 ∧ x.2.2.length ≤ 256 := by
 have h1 : sizesF d = 0 := by
  unfold check3F at h
  split at h
  ·rename_i h1; exact absurd h h1
  ·rename_i h1; exact Classical.byContradiction h1
 unfold sizesF at h1
 split at h1
 ·cases h1
 ·exact sizesG_zero h1
theorem codesR_wid {d : List DeclD} (h : check3F d = 0) : ∀ x ∈ codesR d, x.2.length ≤ 64 := by
 intro x hx
 obtain ⟨-, h2, -⟩ := check3_zero h
 obtain ⟨b, hb, rfl⟩ := codesR_mem.1 hx
 exact famG_wid (codesL_wid h2) b hb
theorem dcG_zero {all : List ByteArray} {l : List FV} : ∀ {r : List FV} {k : Nat}, dcG all l k r = 0 → ∀ y ∈ r, amongF all y.2 = true
 | [], _, _, y, hy => by cases hy
 | x :: r, k, h, y, hy => by
  simp only [dcG] at h
  split at h
  ·cases h
  ·split at h
   ·cases h
   ·split at h
    ·cases h
    ·rename_i h3
     rcases List.mem_cons.1 hy with rfl | hy
     ·simpa using h3
     ·exact dcG_zero h y hy
theorem dcsG_zero {all : List ByteArray} : ∀ {l : List DeclD}, dcsG all l = 0 → ∀ x ∈ l, ∀ y ∈ x.2.2, amongF all y.2 = true
 | [], _, x, hx => by cases hx
 | z :: l, h, x, hx => by
  simp only [dcsG] at h
  split at h
  ·rename_i h1; exact absurd h h1
  ·rename_i h1
   rcases List.mem_cons.1 hx with rfl | hx
   ·exact dcG_zero (Classical.byContradiction h1)
   ·exact dcsG_zero h x hx
theorem nrOk_of {d : List DeclD} (h : check3F d = 0) (h2 : declsF d = 0) : NrOk d (codesR d) :=
 ⟨fun x hx => number_decl h hx, fun x hx y hy => number_name h (dcsG_zero h2 x hx y hy)⟩
end
end Go.Proofs.YtebfihindnhccaaGreat.Fw
