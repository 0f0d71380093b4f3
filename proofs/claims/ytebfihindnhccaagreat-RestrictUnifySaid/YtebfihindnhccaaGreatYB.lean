/- Contracts of the program's and the reference's functions, and the plain laws of what they compute: N5 C30 C31 C32 C33 C34 C35 D1 D4 N6 R07a R07b R07c R07d R07e Sorted R07f R07g R07h R15c P8 G1 G3 G2 G4 G5 G6. -/
/- Plain: the codes of a hierarchy are closed under intersections. -/
import Derived.Test.YtebfihindnhccaaGreatYA
import Derived.Test.YtebfihindnhccaaGreatZJ
import Derived.Test.YtebfihindnhccaaGreatZI
set_option linter.unusedVariables false
set_option linter.unusedSimpArgs false
namespace Go.Proofs.YtebfihindnhccaaGreat.Fw
open Go
attribute [local irreducible] Ev
attribute [local go_sem] cx_tb entEnv List.toList_toArray evSeq evG evK vcK guardOf guardT guardB_true guardB_false step1 step0 stepQ takesIn namesParts namesOf namesStore frzAll frz frz1 fixN frzEnv frzObjs drpEnv drpObjs AV.frz AV.frzs AV.drp AV.drps AV.names AV.namess aq qmap qPick qAlloc qBox qBuild qBuildSlice qBuildSlice2 qLoad qLoadB qLoadB2 qLoadE qLoadE2 qLoadE3 qFieldI qOff qPart qField qIndexA qIndex qIndexS qNil qBin qUn qConv qMake qMake2 qSlice qExtract qLen qAppend qAppend2 qAppend3 qMin qMax qCall qCall2 qCall3 qBuiltin qCallee aloud lStoreD lStore lStoreB lStoreB2 lStoreE lStoreE3 lStoreE4 lCallee lBuiltin lAppend lAppend2 lAppend3 lAppend4 opv lk constAV optAV sliceQ bin binI binS binB boolT zf1 zfs pfs AV.cells nthOff loadB offB storeB notAg fitsT fitsO Ty.cell1 fieldOk partsT partsAg argsT asT asT1 asTs pairO srT castTo_self getF setF getP setP offP offF fldT rvAV rvObj rvAVs rvObjs resAV RV.flat Ty.flat Ty.size St.add upd del fresh Value.oneCell' refZ Ty.dflt sub_all sub_one sub_take sub_end List.take_succ_cons List.take_zero List.length_cons cast0 castS sub_app take_app sub_app1 take_app1 take_one1 natC zero_le_natC i64_min i64_max u64_min u64_max u8_min u8_max inK_i64 inK_u64 inK_u8 Option.map_some Option.map_none Option.bind_some Option.getD_some Option.getD_none Option.isNone_none Option.isNone_some Bool.and_true Bool.true_and Bool.and_false Bool.false_and Bool.not_true Bool.not_false if_true if_false List.length_cons List.length_nil and_true true_and and_self List.all_cons List.all_nil List.append_nil List.nil_append List.cons_append List.getElem?_cons_zero List.getElem?_cons_succ List.getElem?_nil List.map_cons List.map_nil List.set_cons_zero List.set_cons_succ List.isEmpty_nil List.isEmpty_cons decide_true decide_false beq_self_eq_true bne_self_eq_false Nat.zero_add Nat.add_zero Nat.sub_zero Int.toNat_natCast Int.toNat_zero Int.toNat_one List.take_length List.length_append List.length_singleton true_or or_true or_self false_or or_false Ty.agg.injEq Ty.slice.injEq Ty.prod.injEq Ty.int.injEq Option.some.injEq beq_iff_eq evM evMG evMQ opM isPick viewE viewS viewG opTs opTmp consE guardM guardM1 guardM2 sideM sideM2 pickM pickM2 sufB chEq_nil chEq_nc chEq_cn chEq_cons memB dstOf Op.operands Call.operands List.filterMap_cons List.filterMap_nil List.append_eq Bool.cond_false_right Bool.cond_true_left cond_true cond_false implies_true decide_eq_true_eq beq_true beq_false Bool.or_true Bool.or_false Bool.true_or Bool.false_or Option.isSome_some fieldV namesAg namesAgs capNs qClo qClo2 qMakeMap qMakeMap2 qMakeMap3 qLook qLook2 qLook3 qLook4 keyT keyP eqT inB lMapUp lMapUp2 lMapUp3 namesMap argEnv cm_tb List.drop_zero pruneR prune rem1 afterM addDst fgtEnv AV.fgt AV.fgts Obj.fgt restObjs handed memB calleeOf opvs matchArgs matchArg List.any_cons List.any_nil evF evFO evFQ evFK addQ frOk qs List.flatMap_cons List.flatMap_nil List.cons_append tn appN fgtEN List.take_succ_cons List.drop_succ_cons isYl parEnv rangeSt cY_tb marked_tb renOk renIn matchObjs matchEnv matchE matchAV matchAVs matchF matchO pureT
attribute [local go_sem] ty1 ty2 ty3 ty4 ty5 ty9 ty12 ty21 ty22 ty23 ty24 ty25 ty26 ty27 ty28 ty29 ty30 ty31 ty32 ty34 ty35 ty36 ty37 ty38 ty39 ty40 ty41 ty42 ty43 ty44 ty45 ty46 ty47 ty48 ty49 ty50 ty51 ty52 ty53 ty54 ty55 ty56 ty57 ty58 ty59 ty60 ty61 ty62 ty63 ty64 ty65 ty66 ty67 ty68 ty69 ty70 ty71 ty72 ty73 ty74 ty75 ty76 ty77 ty78 ty79 ty81 ty82 ty83 ty84 ty85 ty86 ty87 ty88 ty89 ty90 ty91 ty92 ty93 ty94 ty95 ty96 ty97 ty98 ty99 ty100 ty102 ty103 ty104 ty105 ty106 ty107 ty108 ty110 ty112 ty113 ty114 ty115 ty116 ty117 ty118 ty119 ty120 ty121 ty122 ty123 ty124 ty125 ty126 ty127 ty128 ty129 ty130 ty131 ty132 ty133 ty134 ty135 ty137 ty138 ty140 ty141 ty142 ty143 ty144 ty145 ty146 ty147 ty148 ty150 ty151 ty152 ty153 ty154 ty155 ty156 ty157 ty158 ty159 ty160 ty161 ty162 ty163 ty165 ty166 ty167 ty168 ty169 ty170 ty171 ty172 ty173 ty174 ty175 ty176 ty177 ty178 ty179 ty180 ty181 ty182 ty183 ty184 ty185 ty187 ty188 ty189 ty190 ty191 ty192 ty193 ty194 ty195 ty196 ty198 ty199 ty200 ty201 ty202 ty203 ty204 ty205 ty206 ty207 ty208 ty209 ty210 ty211 ty212 ty213 ty214 ty216 ty217 ty218 ty219 ty220 ty221 ty222 ty223 ty224 ty225 ty226 ty227 ty228 ty229 ty230 ty231 ty232 ty233 ty234 ty235 ty236 ty237 ty239 ty240 ty241 ty242 ty243 ty244 ty245 ty246 ty247 ty248 ty249 ty250 ty251 ty252 ty253 ty254 ty255 ty256 ty257 ty258 ty259 ty260 ty262 ty263 ty264 ty265 ty266 ty267 ty268 ty269 ty270 ty271 ty272 ty273 ty274 ty275 ty276 ty277 ty283 ty286 ty287
set_option maxRecDepth 100000
set_option maxHeartbeats 4000000
section
theorem famK_pre (l : List (List Int)) (i k : Nat) : l <+: famK l i k := by
 unfold famK
 split
 ·exact List.prefix_append _ _
 ·exact List.prefix_refl _
theorem famI_pre (i : Nat) : ∀ (n k : Nat) (l : List (List Int)), l <+: famI i n k l
 | 0, _, l => List.prefix_refl l
 | n + 1, k, l => by
  unfold famI
  split
  ·exact (famK_pre l i k).trans (famI_pre i n (k + 1) _)
  ·exact List.prefix_refl l
theorem famG_pre : ∀ (n i : Nat) (l : List (List Int)), l <+: famG n i l
 | 0, _, l => List.prefix_refl l
 | n + 1, i, l => by
  unfold famG
  split
  ·exact (famI_pre i i 0 l).trans (famG_pre n (i + 1) _)
  ·exact List.prefix_refl l
theorem pre_getD {l m : List (List Int)} (h : l <+: m) {k : Nat} (hk : k < l.length) : m.getD k [] = l.getD k [] := by
 obtain ⟨t, rfl⟩ := h
 simp only [List.getD_eq_getElem?_getD]
 rw [List.getElem?_append_left hk]
def Meets (l : List (List Int)) (q p : Nat) : Prop := andF (l.getD q []) (l.getD p []) = [] ∨ andF (l.getD q []) (l.getD p []) ∈ l
theorem Meets.pre {l m : List (List Int)} (h : l <+: m) {q p : Nat} (hq : q < l.length) (hp : p < l.length) (hm : Meets l q p) : Meets m q p := by
 unfold Meets at hm ⊢
 rw [pre_getD h hq, pre_getD h hp]
 rcases hm with hm | hm
 ·exact .inl hm
 ·exact .inr (h.subset hm)
theorem inB_mem {l : List (List Int)} {b : List Int} (h : inBF l b = true) : b ∈ l := by
 obtain ⟨x, hx, e⟩ := List.any_eq_true.1 h
 have : x = b := by simpa [sameF] using e
 rw [← this]
 exact hx
theorem famK_meets {l : List (List Int)} {i k : Nat} (hi : i < l.length) (hk : k < l.length) : Meets (famK l i k) i k := by
 have hp := famK_pre l i k
 unfold Meets
 rw [pre_getD hp hi, pre_getD hp hk]
 unfold famK
 split
 ·right; simp
 ·rename_i hc
  rw [Bool.and_eq_true, decide_eq_true_eq, Bool.not_eq_true'] at hc
  by_cases h0 : 0 < ((andF (l.getD i []) (l.getD k [])).length : Int)
  ·right
   cases hh : inBF l (andF (l.getD i []) (l.getD k [])) with
   | true => exact inB_mem hh
   | false => exact absurd ⟨h0, hh⟩ hc
  ·left
   exact List.eq_nil_of_length_eq_zero (by omega)
theorem famI_meets {i : Nat} : ∀ {n k : Nat} {l : List (List Int)}, n + k = i → i < l.length → (famI i n k l).length ≤ 256 → (∀ p, p < k → Meets l i p) → ∀ p, p < i → Meets (famI i n k l) i p
 | 0, k, l, hn, hi, hl, h => fun p hp => h p (by omega)
 | n + 1, k, l, hn, hi, hl, h => by
  unfold famI at hl ⊢
  split at hl
  ·rename_i hc
   rw [if_pos hc]
   have hp := famK_pre l i k
   refine famI_meets (by omega) (Nat.lt_of_lt_of_le hi hp.length_le) hl fun p hpk => ?_
   by_cases e : p = k
   ·subst e
    exact famK_meets hi (by omega)
   ·exact (h p (by omega)).pre hp hi (by omega)
  ·rename_i hc
   exact absurd (by omega : l.length ≤ 256) hc
theorem famG_meets : ∀ {n i : Nat} {l : List (List Int)}, 257 ≤ n + i → (famG n i l).length ≤ 256 → i ≤ l.length → (∀ q p, p < q → q < i → Meets l q p) → ∀ q p, p < q → q < (famG n i l).length → Meets (famG n i l) q p
 | 0, i, l, hn, hl, hil, h => fun q p hpq hq => by
  have hl' : l.length ≤ 256 := hl
  omega
 | n + 1, i, l, hn, hl, hil, h => by
  unfold famG at hl ⊢
  split at hl
  ·rename_i hc
   rw [if_pos hc]
   have hp := famI_pre i i 0 l
   have hpl := hp.length_le
   have hgl := (famG_pre n (i + 1) (famI i i 0 l)).length_le
   refine famG_meets (by omega) hl (by omega) fun q p hpq hq => ?_
   by_cases e : q = i
   ·subst e
    exact famI_meets (by omega) hc.1 (by omega) (fun p hp => by omega) p hpq
   ·exact (h q p hpq (by omega)).pre hp (by omega) (by omega)
  ·rename_i hc
   rw [if_neg hc]
   intro q p hpq hq
   exact h q p hpq (by
    refine Classical.byContradiction fun hh => hc ⟨by omega, hl⟩)
theorem family_meets {c : List (List Int)} (hl : (familyF c).length ≤ 256) : ∀ q p, p < q → q < (familyF c).length → Meets (familyF c) q p :=
 famG_meets (by omega) hl (Nat.zero_le _) (fun q p _ h => by omega)
/-! Bits -/
theorem and_getD (a b : List Int) (k : Nat) : (andF a b).getD k 0 = if k < a.length then bitsV .and .u64 (a.getD k 0) (b.getD k 0) else 0 := by
 unfold andF
 rw [normalF_getD]
 split
 ·rename_i h; exact zipL_getD .and a b h
 ·rename_i h
  rw [List.getD_eq_getElem?_getD, List.getElem?_eq_none (by rw [zipL_len]; omega)]
  rfl
theorem getD_out {b : List Int} {k : Nat} (h : ¬ k < b.length) : b.getD k 0 = 0 := by
 rw [List.getD_eq_getElem?_getD, List.getElem?_eq_none (by omega)]; rfl
theorem and_bit {a b : List Int} (ha : Wds a) (hb : Wds b) (i : Nat) : bitN (andF a b) i = (bitN a i && bitN b i) := by
 unfold bitN
 rw [and_getD]
 split
 ·rw [and_bits (getD_U64 ha _) (getD_U64 hb _), Int.toNat_natCast, Nat.testBit_and]
 ·rename_i h
  rw [getD_out h]
  simp
theorem and_wds {a b : List Int} (ha : Wds a) (hb : Wds b) : Wds (andF a b) := by
 refine normal_wds fun x hx => ?_
 unfold zipL at hx
 obtain ⟨i, -, rfl⟩ := List.mem_map.1 hx
 rw [wordF_nat, and_bits (getD_U64 ha _) (getD_U64 hb _)]
 have h1 := getD_U64 ha i
 have h2 : (a.getD i 0).toNat &&& (b.getD i 0).toNat ≤ (a.getD i 0).toNat := Nat.and_le_left
 have h3 := h1.1
 have h4 := h1.2
 exact ⟨Int.natCast_nonneg _, by omega⟩
theorem norm_last (b : List Int) : ∀ n, normN b n = 0 ∨ b.getD (normN b n - 1) 0 ≠ 0
 | 0 => .inl rfl
 | n + 1 => by
  unfold normN
  split
  ·exact norm_last b n
  ·rename_i h
   right
   simpa using h
theorem nat_bit {n : Nat} (h0 : n ≠ 0) (h1 : n < 18446744073709551616) : ∃ r, r < 64 ∧ n.testBit r = true := by
 refine Classical.byContradiction fun hc => h0 ?_
 refine Nat.eq_of_testBit_eq fun r => ?_
 rw [Nat.zero_testBit]
 by_cases hr : r < 64
 ·cases hb : n.testBit r with
  | false => rfl
  | true => exact absurd ⟨r, hr, hb⟩ hc
 ·have e : (18446744073709551616 : Nat) = 2 ^ 64 := by decide
  rw [e] at h1
  exact Nat.testBit_lt_two_pow (Nat.lt_of_lt_of_le h1 (Nat.pow_le_pow_right (by decide) (by omega)))
theorem word_bit {b : List Int} (hb : Wds b) {k : Nat} (h : b.getD k 0 ≠ 0) : ∃ i, bitN b i = true := by
 have hu := getD_U64 hb k
 have h1 := hu.1
 have h2 := hu.2
 obtain ⟨r, hr, ht⟩ := nat_bit (n := (b.getD k 0).toNat) (by omega) (by omega)
 refine ⟨64 * k + r, ?_⟩
 unfold bitN
 rw [show (64 * k + r) / 64 = k by omega, show (64 * k + r) % 64 = r by omega]
 exact ht
theorem normal_bit {b : List Int} (hb : Wds b) (h : normalF b ≠ []) : ∃ i, bitN b i = true := by
 rcases norm_last b b.length with h1 | h1
 ·exact absurd (by unfold normalF; rw [h1]; rfl) h
 ·exact word_bit hb h1
theorem bits_word {a b : List Int} (ha : Wds a) (hb : Wds b) (h : ∀ i, bitN a i = true → bitN b i = true) (k : Nat) : bitsV .andNot .u64 (a.getD k 0) (b.getD k 0) = 0 := by
 rw [andNot_eq]
 have : (BitVec.ofInt 64 (a.getD k 0) &&& ~~~BitVec.ofInt 64 (b.getD k 0)) = 0#64 := by
  apply BitVec.eq_of_getLsbD_eq
  intro r hr
  rw [BitVec.getLsbD_and, BitVec.getLsbD_not, ← BitVec.testBit_toNat, ← BitVec.testBit_toNat, ofInt_nat (getD_U64 ha k), ofInt_nat (getD_U64 hb k)]
  have hk := h (64 * k + r)
  unfold bitN at hk
  rw [show (64 * k + r) / 64 = k by omega, show (64 * k + r) % 64 = r by omega] at hk
  cases hx : (a.getD k 0).toNat.testBit r with
  | false => simp
  | true => rw [hk hx]; simp
 rw [this]
 rfl
theorem subset_iff {a b : List Int} (ha : Wds a) (hb : Wds b) : subsetF a b = true ↔ ∀ i, bitN a i = true → bitN b i = true := by
 constructor
 ·exact fun h i hi => subset_bits ha hb h hi
 ·intro h
  unfold subsetF minusF normalF
  have h1 : normN (zipL .andNot a b a.length) (zipL .andNot a b a.length).length = 0 := by
   rw [zipL_len]
   exact normN_all fun k hk => by rw [zipL_getD _ _ _ hk]; exact bits_word ha hb h k
  rw [h1]
  rfl
end
/- Functions of grammarlabref05: Check. -/
section
attribute [local go_sem] codesS featsS declsS introS inhS
def inhBad (d : List DeclD) (l : List CodedD) (t : Nat) (s : ByteArray) : Bool := (inhF d l (t : Int) s).2 && ((inhF d l (t : Int) s).1.length : Int) == 0
def inhBads (d : List DeclD) (l : List CodedD) (f : List ByteArray) (t : Nat) : Bool := f.any (inhBad d l t)
def valBad (d : List DeclD) (l : List CodedD) (f : List ByteArray) (n : Nat) : Bool := (List.range n).any (inhBads d l f)
theorem valBad_succ (d : List DeclD) (l : List CodedD) (f : List ByteArray) (n : Nat) : valBad d l f (n + 1) = (valBad d l f n || inhBads d l f n) := by
 unfold valBad
 rw [List.range_succ, List.any_append]
 simp
def check5F (d : List DeclD) : Int :=
 if (codesF d).2 ≠ 0 then (codesF d).2 else if 64 < (featsF d).length then 7 else if declsF d ≠ 0 then declsF d else
 if ((featsF d).all fun s => (introF d s).2) = false then 10 else if valBad d (codesF d).1 (featsF d) (codesF d).1.length = true then 11 else 0
def check5S : Spec := { ins := [T22], pre := fun _ => True, out := fun (d, _) => [.p T79 (check5F d)] }
theorem check5_ok : FnOk Tryz.prog 129 check5S := by
 refine fn_ok Tryz.func129 (by kernel_rfl) rfl Tryz.ntmps129 (by decide) (by kernel_rfl) (tyTab_ok [(97, codesS), (130, featsS), (173, declsS), (140, introS), (131, inhS)]) (fns_cons codes_ok (fns_cons feats_ok (fns_cons decls_ok (fns_cons intro_ok (fns_cons inh_ok fns_nil))))) ?_
 rintro w0 O0 ⟨d, u⟩ hc - -
 simp only [check5S, entEnv]
 repeat' (first | exact trivial | refine eS rfl ?_ | refine ev_out_inv ?_ | refine rX [0, 2, 3, 4, 5, 6, 7, 9, 10, 11, 12, 13, 20, 26, 30, 35, 48, 52, 58, 77] hc ?_ ?_ | (refine rC (fun hcond => ?_) (fun hcond => ?_) <;> try (cases hcond; done)))
 ·have h1 : check5F d = (codesF d).2 := by unfold check5F; rw [if_pos hcond]
  exact ev_fin hc [.tmp 2] rfl (.inl rfl) (by simp) (by rw [h1]; first | exact eR | refine eRM ?_)
 ·have hz : (codesF d).2 = 0 := by simpa using hcond
  obtain ⟨h3, -, -⟩ := codesF_zero hz
  obtain ⟨-, hd, -⟩ := check3_zero h3
  exact ⟨hd, fun x hx => (check3_sizes h3 x hx).2⟩
 ·have hz : (codesF d).2 = 0 := by simpa using ‹((codesF d).2 != 0) = false›
  have h1 : check5F d = 7 := by
   unfold check5F
   rw [if_neg (by rw [hz]; simp), if_pos (by omega)]
  exact ev_fin hc [.tmp 2] rfl (.inl rfl) (by simp) (by rw [h1]; first | exact eR | refine eRM ?_)
 ·have hz : (codesF d).2 = 0 := by simpa using ‹((codesF d).2 != 0) = false›
  obtain ⟨h3, -, -⟩ := codesF_zero hz
  exact (check3_zero h3).2.1
 ·have hz : (codesF d).2 = 0 := by simpa using ‹((codesF d).2 != 0) = false›
  have h1 : check5F d = declsF d := by
   unfold check5F
   rw [if_neg (by rw [hz]; simp), if_neg (by omega), if_pos hcond]
  exact ev_fin hc [.tmp 2] rfl (.inl rfl) (by simp) (by rw [h1]; first | exact eR | refine eRM ?_)
 ·have hz : (codesF d).2 = 0 := by simpa using ‹((codesF d).2 != 0) = false›
  have hdz : declsF d = 0 := by simpa using hcond
  obtain ⟨h3, hlen, hl⟩ := codesF_zero hz
  obtain ⟨hsup, hd, -⟩ := check3_zero h3
  have hnr := nrOk_of h3 hdz
  have hwid := codesR_wid h3
  have hpos := fam_pos h3
  have hll : (codesR d).length ≤ 256 := by rw [codesR_len]; exact hlen
  have hc5 : check5F d = if ((featsF d).all fun s => (introF d s).2) = false then 10 else if valBad d (codesF d).1 (featsF d) (codesF d).1.length = true then 11 else 0 := by
   unfold check5F
   rw [if_neg (by rw [hz]; simp), if_neg (by omega), if_neg (by rw [hdz]; simp)]
  rw [hl] at hc5 ⊢
  generalize codesR d = l at *
  generalize featsF d = f at *
  refine ev_loop (ι := {i : Nat // i ≤ f.length ∧ ((f.take i).all fun s => (introF d s).2) = true}) (fun i => ⟨[(0, .p T22 d), (3, .p T138 l), (5, .p T151 f), (7, .p (.int .i64) (i.1 : Int))], []⟩) (fun i => f.length - i.1) ⟨0, Nat.zero_le _, rfl⟩ (ent_match [] rfl rfl ?_ ?_) (fun i => ?_)
  ·first | exact eN | refine eM ?_
  ·first | exact eN | refine eM ?_
  ·obtain ⟨i, hi, hall⟩ := i
   have hstep := fun h : i < f.length => all_take1 f ByteArray.empty (fun s => (introF d s).2) h
   simp only
   repeat' (first | exact trivial | refine eS rfl ?_ | refine ev_out_inv ?_ | refine rX [0, 2, 3, 4, 5, 6, 7, 9, 10, 11, 12, 13, 20, 26, 30, 35, 48, 52, 58, 77] hc ?_ ?_ | (refine rC (fun hcond => ?_) (fun hcond => ?_) <;> try (cases hcond; done)))
   ·exact ⟨hcond, hsup, hd⟩
   ·have hi2 : i < f.length := Int.ofNat_lt.1 (by assumption)
    have h2 : (f.all fun s => (introF d s).2) = false := by
     rw [Bool.eq_false_iff]
     intro h
     have := List.all_eq_true.1 h _ (mem_of_take_succ f ByteArray.empty hi2)
     rw [show (introF d (f.getD i ByteArray.empty)).2 = false from hcond] at this
     cases this
    rw [if_pos h2] at hc5
    exact ev_fin hc [.tmp 2] rfl (.inl rfl) (by simp) (by rw [hc5]; first | exact eR | refine eRM ?_)
   ·omega
   ·have hi2 : i < f.length := Int.ofNat_lt.1 (by assumption)
    refine ⟨⟨i + 1, hi2, ?_⟩, by simp only; omega, ent_match [] rfl rfl ?_ ?_⟩
    ·rw [hstep hi2, hall]
     exact hcond
    ·first | exact eN | refine eM ?_
    ·first | exact eN | refine eM ?_
   ·have hi2 : f.take i = f := List.take_of_length_le (Int.ofNat_le.1 hcond)
    rw [hi2] at hall
    rw [if_neg (by rw [hall]; simp)] at hc5
    refine ev_loop (ι := {t : Nat // t ≤ l.length ∧ valBad d l f t = false}) (fun t => ⟨[(0, .p T22 d), (3, .p T138 l), (5, .p T151 f), (10, .p (.int .i64) (t.1 : Int))], []⟩) (fun t => l.length - t.1) ⟨0, Nat.zero_le _, rfl⟩ (ent_match [] rfl rfl ?_ ?_) (fun t => ?_)
    ·first | exact eN | refine eM ?_
    ·first | exact eN | refine eM ?_
    ·obtain ⟨t, ht, hvb⟩ := t
     have hvs := valBad_succ d l f t
     simp only
     repeat' (first | exact trivial | refine eS rfl ?_ | refine ev_out_inv ?_ | refine rX [0, 2, 3, 4, 5, 6, 7, 9, 10, 11, 12, 13, 20, 26, 30, 35, 48, 52, 58, 77] hc ?_ ?_ | (refine rC (fun hcond => ?_) (fun hcond => ?_) <;> try (cases hcond; done)))
     ·have htl : t < l.length := Int.ofNat_lt.1 hcond
      refine ev_loop (ι := {k : Nat // k ≤ f.length ∧ (f.take k).any (inhBad d l t) = false}) (fun k => ⟨[(0, .p T22 d), (3, .p T138 l), (5, .p T151 f), (10, .p (.int .i64) (t : Int)), (11, .p (.int .i64) (k.1 : Int))], []⟩) (fun k => f.length - k.1) ⟨0, Nat.zero_le _, rfl⟩ (ent_match [] rfl rfl ?_ ?_) (fun k => ?_)
      ·first | exact eN | refine eM ?_
      ·first | exact eN | refine eM ?_
      ·obtain ⟨k, hk, hany⟩ := k
       have hst := fun h : k < f.length => any_take2 f ByteArray.empty (inhBad d l t) h
       simp only
       repeat' (first | exact trivial | refine eS rfl ?_ | refine ev_out_inv ?_ | refine rX [0, 2, 3, 4, 5, 6, 7, 9, 10, 11, 12, 13, 20, 26, 30, 35, 48, 52, 58, 77] hc ?_ ?_ | (refine rC (fun hcond => ?_) (fun hcond => ?_) <;> try (cases hcond; done)))
       ·exact ⟨hcond, hnr, by assumption, hll, hwid⟩
       ·have hk2 : k < f.length := Int.ofNat_lt.1 (by assumption)
        have hb : inhBad d l t (f.getD k ByteArray.empty) = true := by
         unfold inhBad
         rw [Bool.and_eq_true, beq_iff_eq]
         exact hcond
        have hB : valBad d l f l.length = true := by
         unfold valBad
         rw [List.any_eq_true]
         exact ⟨t, List.mem_range.2 htl, any_of_get2 f ByteArray.empty _ hk2 hb⟩
        rw [if_pos hB] at hc5
        exact ev_fin hc [.tmp 2] rfl (.inl rfl) (by simp) (by rw [hc5]; first | exact eR | refine eRM ?_)
       ·omega
       ·have hk2 : k < f.length := Int.ofNat_lt.1 (by assumption)
        have hb : inhBad d l t (f.getD k ByteArray.empty) = false := by
         rw [Bool.eq_false_iff]
         unfold inhBad
         intro h
         rw [Bool.and_eq_true, beq_iff_eq] at h
         exact hcond h.1 h.2
        refine ⟨⟨k + 1, hk2, ?_⟩, by simp only; omega, ent_match [] rfl rfl ?_ ?_⟩
        ·rw [hst hk2, hany, hb]
         rfl
        ·first | exact eN | refine eM ?_
        ·first | exact eN | refine eM ?_
       ·omega
       ·have hk2 : f.take k = f := List.take_of_length_le (Int.ofNat_le.1 hcond)
        rw [hk2] at hany
        refine ⟨⟨t + 1, htl, ?_⟩, by simp only; omega, ent_match [] rfl rfl ?_ ?_⟩
        ·rw [hvs, hvb]
         exact hany
        ·first | exact eN | refine eM ?_
        ·first | exact eN | refine eM ?_
     ·have ht2 : t = l.length := by exact eV
      subst ht2
      rw [if_neg (by rw [hvb]; simp)] at hc5
      exact ev_fin hc [.tmp 2] rfl (.inl rfl) (by simp) (by rw [hc5]; first | exact eR | refine eRM ?_)
end
/- Functions of grammarlabref05: Features. -/
section
attribute [local go_sem] check5S codesS featsS introS numberS
abbrev FeatD := ByteArray × Int
theorem check5_zero {d : List DeclD} (h : check5F d = 0) : (codesF d).2 = 0 ∧ (featsF d).length ≤ 64 ∧ declsF d = 0 := by
 unfold check5F at h
 split at h
 ·rename_i h1; exact absurd h h1
 ·rename_i h1
  split at h
  ·cases h
  ·rename_i h2
   split at h
   ·rename_i h3; exact absurd h h3
   ·rename_i h3
    exact ⟨Classical.byContradiction h1, by omega, Classical.byContradiction h3⟩
def featD (d : List DeclD) (s : ByteArray) : FeatD := (s, numberF (codesR d) (introF d s).1)
def featuresF (d : List DeclD) : List FeatD × Int := if check5F d ≠ 0 then ([], check5F d) else ((featsF d).map (featD d), 0)
theorem map_take_succ {α β : Type} (f : α → β) (l : List α) (d : α) {k : Nat} (h : k < l.length) : (l.take (k + 1)).map f = (l.take k).map f ++ [f (l.getD k d)] := by
 rw [take_snoc l d h, List.map_append]
 rfl
theorem map_take_len {α β : Type} (f : α → β) (l : List α) {k : Nat} (h : k ≤ l.length) : ((l.take k).map f).length = k := by simp [h]
def featuresS : Spec := { ins := [T22], pre := fun _ => True, out := fun (d, _) => [.p T27 (featuresF d).1, .p T79 (featuresF d).2] }
theorem features_ok : FnOk Tryz.prog 99 featuresS := by
 refine fn_ok Tryz.func99 (by kernel_rfl) rfl Tryz.ntmps99 (by decide) (by kernel_rfl) (tyTab_ok [(129, check5S), (97, codesS), (130, featsS), (140, introS), (141, numberS)]) (fns_cons check5_ok (fns_cons codes_ok (fns_cons feats_ok (fns_cons intro_ok (fns_cons number_ok fns_nil))))) ?_
 rintro w0 O0 ⟨d, u⟩ hc - -
 simp only [featuresS, entEnv]
 repeat' (first | exact trivial | refine eS rfl ?_ | refine ev_out_inv ?_ | refine rX [0, 2, 3, 4, 5, 7, 8, 9, 10, 15, 27] hc ?_ ?_ | (refine rC (fun hcond => ?_) (fun hcond => ?_) <;> try (cases hcond; done)))
 ·have h1 : featuresF d = ([], check5F d) := by unfold featuresF; rw [if_pos hcond]
  exact ev_fin hc [.tmp 2, .tmp 3] rfl (.inl rfl) (by simp) (by rw [h1]; first | exact eR | refine eRM ?_)
 ·have h5 : check5F d = 0 := by simpa using hcond
  obtain ⟨hz, -, -⟩ := check5_zero h5
  obtain ⟨h3, -, -⟩ := codesF_zero hz
  exact ⟨(check3_zero h3).2.1, fun x hx => (check3_sizes h3 x hx).2⟩
 ·have h5 : check5F d = 0 := by simpa using hcond
  obtain ⟨hz, hf64, -⟩ := check5_zero h5
  obtain ⟨h3, -, hl⟩ := codesF_zero hz
  obtain ⟨hsup, hd, -⟩ := check3_zero h3
  have hr : featuresF d = ((featsF d).map (featD d), 0) := by unfold featuresF; rw [if_neg (by rw [h5]; simp)]
  rw [hl]
  generalize featsF d = f at *
  refine ev_loop (ι := {i : Nat // i ≤ f.length}) (fun i => ⟨[(0, .p T22 d), (5, .p T138 (codesR d)), (7, .p T151 f), (8, .sr 49 T201 0 ((f.take i.1).map (featD d)).length), (9, .p (.int .i64) (i.1 : Int))], [(49, .arr 201 T201 ((f.take i.1).map (featD d)))]⟩) (fun i => f.length - i.1) ⟨0, Nat.zero_le _⟩ (ent_match [(49, .nil)] rfl rfl ?_ ?_) (fun i => ?_)
  ·first | exact eN | refine eM ?_
  ·first | exact eN | refine eM ?_
  ·obtain ⟨i, hi⟩ := i
   have hlen := map_take_len (featD d) f hi
   have hs := fun h : i < f.length => map_take_succ (featD d) f ByteArray.empty h
   simp only
   repeat' (first | exact trivial | refine eS rfl ?_ | refine ev_out_inv ?_ | refine rX [0, 2, 3, 4, 5, 7, 8, 9, 10, 15, 27] hc ?_ ?_ | (refine rC (fun hcond => ?_) (fun hcond => ?_) <;> try (cases hcond; done)))
   ·exact ⟨hcond, hsup, hd⟩
   ·refine ⟨hcond, ?_⟩
    rw [hlen]
    simp only [maxN]
    omega
   ·omega
   ·have hi2 : i < f.length := Int.ofNat_lt.1 hcond
    have e := hs hi2
    refine ⟨⟨i + 1, hi2⟩, by simp only; omega, ent_match [(49, .nm 49)] rfl rfl ?_ ?_⟩
    ·simp only [e]
     first | exact eN | refine eM ?_
     rfl
    ·simp only [e]
     first | exact eN | refine eM ?_
   ·have hi2 : f.take i = f := List.take_of_length_le (Int.ofNat_le.1 hcond)
    rw [hi2]
    refine frzE [49] ?_
    exact ev_fin hc [.tmp 2, .tmp 3] rfl (.inl rfl) (by simp) (by rw [hr]; first | exact eR | refine eRM ?_)
end
/- Functions of grammarlabref05: Values. -/
section
attribute [local go_sem] check5S codesS featsS inhS findCS
def oneG (d : List DeclD) (l : List CodedD) (f : List ByteArray) (t : Nat) (n : Nat) : List (Int × Int) :=
 ((List.range n).filter fun (i : Nat) => (inhF d l (t : Int) (f.getD i ByteArray.empty)).2).map fun (i : Nat) => ((i : Int), findCF l (inhF d l (t : Int) (f.getD i ByteArray.empty)).1)
def valsG (d : List DeclD) (l : List CodedD) (f : List ByteArray) (n : Nat) : List (List (Int × Int)) := (List.range n).map fun t => oneG d l f t f.length
def valuesF (d : List DeclD) : List (List (Int × Int)) × Int := if check5F d ≠ 0 then ([], check5F d) else (valsG d (codesR d) (featsF d) (codesR d).length, 0)
theorem oneG_succ (d : List DeclD) (l : List CodedD) (f : List ByteArray) (t n : Nat) : oneG d l f t (n + 1) = oneG d l f t n ++ if (inhF d l (t : Int) (f.getD n ByteArray.empty)).2 = true then [((n : Int), findCF l (inhF d l (t : Int) (f.getD n ByteArray.empty)).1)] else [] := by
 unfold oneG
 rw [List.range_succ, List.filter_append, List.map_append]
 congr 1
 rw [List.filter_cons, List.filter_nil]
 split <;> rfl
theorem oneG_len (d : List DeclD) (l : List CodedD) (f : List ByteArray) (t n : Nat) : (oneG d l f t n).length ≤ n := by
 unfold oneG
 rw [List.length_map]
 exact Nat.le_trans (List.length_filter_le _ _) (by simp)
theorem valsG_succ (d : List DeclD) (l : List CodedD) (f : List ByteArray) (n : Nat) : valsG d l f (n + 1) = valsG d l f n ++ [oneG d l f n f.length] := by simp [valsG, List.range_succ]
theorem valsG_len (d : List DeclD) (l : List CodedD) (f : List ByteArray) (n : Nat) : (valsG d l f n).length = n := by simp [valsG]
theorem inhF_wid {d : List DeclD} {l : List CodedD} (h : ∀ x ∈ l, x.2.length ≤ 64) (t : Int) (s : ByteArray) : (inhF d l t s).1.length ≤ 64 := by
 unfold inhF
 refine inhs_len t s d ?_
 rw [List.getD_eq_getElem?_getD]
 cases hh : l[0]? with
 | none => simp
 | some x => exact h x (List.mem_of_getElem? hh)
def values5S : Spec := { ins := [T22], pre := fun _ => True, out := fun (d, _) => [.p T135 (valuesF d).1, .p T79 (valuesF d).2] }
theorem values5_ok : FnOk Tryz.prog 96 values5S := by
 refine fn_ok Tryz.func96 (by kernel_rfl) rfl Tryz.ntmps96 (by decide) (by kernel_rfl) (tyTab_ok [(129, check5S), (97, codesS), (130, featsS), (131, inhS), (132, findCS)]) (fns_cons check5_ok (fns_cons codes_ok (fns_cons feats_ok (fns_cons inh_ok (fns_cons findC_ok fns_nil))))) ?_
 rintro w0 O0 ⟨d, u⟩ hc - -
 simp only [values5S, entEnv]
 repeat' (first | exact trivial | refine eS rfl ?_ | refine ev_out_inv ?_ | refine rX [0, 2, 3, 4, 5, 7, 8, 9, 10, 11, 12, 13, 17, 29, 35, 49] hc ?_ ?_ | (refine rC (fun hcond => ?_) (fun hcond => ?_) <;> try (cases hcond; done)))
 ·have h1 : valuesF d = ([], check5F d) := by unfold valuesF; rw [if_pos hcond]
  exact ev_fin hc [.tmp 2, .tmp 3] rfl (.inl rfl) (by simp) (by rw [h1]; first | exact eR | refine eRM ?_)
 ·have h5 : check5F d = 0 := by simpa using hcond
  obtain ⟨hz, -, -⟩ := check5_zero h5
  obtain ⟨h3, -, -⟩ := codesF_zero hz
  exact ⟨(check3_zero h3).2.1, fun x hx => (check3_sizes h3 x hx).2⟩
 ·have h5 : check5F d = 0 := by simpa using hcond
  obtain ⟨hz, hf64, hdz⟩ := check5_zero h5
  obtain ⟨h3, hlen, hl⟩ := codesF_zero hz
  obtain ⟨hsup, hd, -⟩ := check3_zero h3
  have hr : valuesF d = (valsG d (codesR d) (featsF d) (codesR d).length, 0) := by unfold valuesF; rw [if_neg (by rw [h5]; simp)]
  have hnr := nrOk_of h3 hdz
  have hwid := codesR_wid h3
  have hll : (codesR d).length ≤ 256 := by rw [codesR_len]; exact hlen
  rw [hl]
  generalize codesR d = l at *
  generalize featsF d = f at *
  have hiw := fun t s => inhF_wid (d := d) hwid t s
  refine ev_loop (ι := {t : Nat // t ≤ l.length}) (fun t => ⟨[(0, .p T22 d), (5, .p T138 l), (7, .p T151 f), (8, .sr 61 T146 0 (valsG d l f t.1).length), (9, .p (.int .i64) (t.1 : Int))], [(61, .arr 146 T146 (valsG d l f t.1))]⟩) (fun t => l.length - t.1) ⟨0, Nat.zero_le _⟩ (ent_match [(61, .nil)] rfl rfl ?_ ?_) (fun t => ?_)
  ·first | exact eN | refine eM ?_
   rfl
  ·first | exact eN | refine eM ?_
   rfl
  ·obtain ⟨t, ht⟩ := t
   have hlen := valsG_len d l f t
   have hs := valsG_succ d l f t
   simp only
   repeat' (first | exact trivial | refine eS rfl ?_ | refine ev_out_inv ?_ | refine rX [0, 2, 3, 4, 5, 7, 8, 9, 10, 11, 12, 13, 17, 29, 35, 49] hc ?_ ?_ | (refine rC (fun hcond => ?_) (fun hcond => ?_) <;> try (cases hcond; done)))
   ·refine ev_loop (ι := {i : Nat // i ≤ f.length}) (fun i => ⟨[(0, .p T22 d), (5, .p T138 l), (7, .p T151 f), (8, .sr 61 T146 0 (valsG d l f t).length), (9, .p (.int .i64) (t : Int)), (10, .sr 57 T190 0 (oneG d l f t i.1).length), (11, .p (.int .i64) (i.1 : Int))], [(61, .arr 146 T146 (valsG d l f t)), (57, .arr 190 T190 (oneG d l f t i.1))]⟩) (fun i => f.length - i.1) ⟨0, Nat.zero_le _⟩ (ent_match [(61, .nm 61), (57, .nil)] rfl rfl ?_ ?_) (fun i => ?_)
    ·first | exact eN | refine eM ?_
     rfl
    ·first | exact eN | refine eM ?_
     rfl
    ·obtain ⟨i, hi⟩ := i
     have hol := oneG_len d l f t i
     have hos := oneG_succ d l f t i
     simp only
     repeat' (first | exact trivial | refine eS rfl ?_ | refine ev_out_inv ?_ | refine rX [0, 2, 3, 4, 5, 7, 8, 9, 10, 11, 12, 13, 17, 29, 35, 49] hc ?_ ?_ | (refine rC (fun hcond => ?_) (fun hcond => ?_) <;> try (cases hcond; done)))
     ·exact ⟨hcond, hnr, by assumption, hll, hwid⟩
     ·refine ⟨Nat.le_trans (hiw _ _) (by decide), ?_⟩
      simp only [maxN]
      omega
     ·omega
     ·have hi2 : i < f.length := Int.ofNat_lt.1 (by assumption)
      rw [if_pos hcond] at hos
      refine ⟨⟨i + 1, hi2⟩, by simp only; omega, ent_match [(61, .nm 61), (57, .nm 57)] rfl rfl ?_ ?_⟩
      ·simp only [hos]
       first | exact eN | refine eM ?_
      ·simp only [hos]
       first | exact eN | refine eM ?_
     ·omega
     ·have hi2 : i < f.length := Int.ofNat_lt.1 (by assumption)
      rw [if_neg (by rw [hcond]; simp), List.append_nil] at hos
      refine ⟨⟨i + 1, hi2⟩, by simp only; omega, ent_match [(61, .nm 61), (57, .nm 57)] rfl rfl ?_ ?_⟩
      ·simp only [hos]
       first | exact eN | refine eM ?_
      ·simp only [hos]
       first | exact eN | refine eM ?_
     ·rw [hlen]
      simp only [maxN]
      omega
     ·omega
     ·have ht2 : t < l.length := Int.ofNat_lt.1 (by assumption)
      have hi2 : i = f.length := by omega
      subst hi2
      refine ⟨⟨t + 1, ht2⟩, by simp only; omega, ent_match [(61, .nm 61)] rfl rfl ?_ ?_⟩
      ·simp only [hs]
       first | exact eN | refine eM ?_
      ·simp only [hs]
       first | exact eN | refine eM ?_
   ·have ht2 : t = l.length := by omega
    subst ht2
    refine frzE [61] ?_
    exact ev_fin hc [.tmp 2, .tmp 3] rfl (.inl rfl) (by simp) (by rw [hr]; first | exact eR | refine eRM ?_)
end
/- Functions of grammarlabref06: decl. -/
section
attribute [local go_sem] cs0
def pairG (l : List ByteArray) (n : Nat) : List FV := (List.range n).map fun k => (l.getD (2 * k) ByteArray.empty, l.getD (2 * k + 1) ByteArray.empty)
theorem pairG_succ (l : List ByteArray) (n : Nat) : pairG l (n + 1) = pairG l n ++ [(l.getD (2 * n) ByteArray.empty, l.getD (2 * n + 1) ByteArray.empty)] := by simp [pairG, List.range_succ]
theorem pairG_len (l : List ByteArray) (n : Nat) : (pairG l n).length = n := by simp [pairG]
def declSup (s : ByteArray) : List ByteArray := if strEq s ByteArray.empty = true then [] else [s]
def declF (n s : ByteArray) (l : List ByteArray) : DeclD := (n, declSup s, pairG l (l.length / 2))
def declS : Spec := { ins := [T9, T9, T151], pre := fun (_, _, l, _) => List.length l ≤ 1000, out := fun (n, s, l, _) => [.p T154 (declF n s l)] }
theorem decl_ok : FnOk Tryz.prog 100 declS := by
 refine fn_ok Tryz.func100 (by kernel_rfl) rfl Tryz.ntmps100 (by decide) (by kernel_rfl) (tyTab_ok []) fns_nil ?_
 rintro w0 O0 ⟨n, s, l, u⟩ hc - hl
 have hl : l.length ≤ 1000 := hl
 simp only [declS, entEnv]
 repeat' (first | exact trivial | refine eS rfl ?_ | refine ev_out_inv ?_ | refine rX [0, 1, 2, 6, 7, 8, 12, 20] hc ?_ ?_ | (refine rC (fun hcond => ?_) (fun hcond => ?_) <;> try (cases hcond; done)))
 ·have hcd := hcond
  refine frzE [14] ?_
  refine ev_loop (ι := {k : Nat // 2 * k ≤ l.length}) (fun k => ⟨[(2, .p T151 l), (6, .bp 6 [] 0), (7, .bp 7 [] 0), (8, .p (.int .i64) ((2 * k.1 : Nat) : Int))], [(6, .box 154 true [.p T9 ByteArray.empty, .raw (.slice none 0 0), .raw (.slice none 0 0)]), (7, .box 154 true [.p T9 n, .p T151 [s], .sr 36 T157 0 (pairG l k.1).length]), (36, .arr 157 T157 (pairG l k.1))]⟩) (fun k => l.length - 2 * k.1) ⟨0, Nat.zero_le _⟩ (ent_match [(6, .nm 6), (7, .nm 7), (36, .nil)] rfl rfl ?_ ?_) (fun k => ?_)
  ·first | exact eN | refine eM ?_
   exact ⟨rfl, rfl⟩
  ·first | exact eN | refine eM ?_
  ·obtain ⟨k, hk⟩ := k
   have hpl := pairG_len l k
   have hps := pairG_succ l k
   simp only
   repeat' (first | exact trivial | refine eS rfl ?_ | refine ev_out_inv ?_ | refine rX [0, 1, 2, 6, 7, 8, 12, 20] hc ?_ ?_ | (refine rC (fun hcond => ?_) (fun hcond => ?_) <;> try (cases hcond; done)))
   ·exact eV
   ·refine ⟨by exact eV, ⟨by exact eV, by exact eV⟩, ⟨by exact eV, by exact eV⟩, ?_⟩
    rw [hpl]
    simp only [maxN]
    exact eV
   ·exact eV
   ·have hk2 : 2 * k + 1 < l.length := by exact eV
    have e1 : ((2 * k : Nat) : Int) + 1 = ((2 * k + 1 : Nat) : Int) := by omega
    refine ⟨⟨k + 1, by omega⟩, by simp only; omega, ent_match [(6, .nm 6), (7, .nm 7), (36, .nm 36)] rfl rfl ?_ ?_⟩
    ·simp only [hps]
     first | exact eN | refine eM ?_
     rw [e1]
     rfl
    ·simp only [hps]
     first | exact eN | refine eM ?_
     show ((2 * k : Nat) : Int) + 2 = ((2 * (k + 1) : Nat) : Int)
     omega
   ·have hk2 : k = l.length / 2 := by exact eV
    refine frzE [36] ?_
    have hr : declF n s l = (n, [s], pairG l k) := by
     unfold declF declSup
     rw [← hk2, if_neg (by rw [show strEq s ByteArray.empty = false from hcd]; simp)]
    exact ev_fin hc [.cell 6 154] rfl (.inl rfl) (by simp) (by rw [hr]; first | exact eR | refine eRM ?_)
 ·have hcd := hcond
  refine ev_loop (ι := {k : Nat // 2 * k ≤ l.length}) (fun k => ⟨[(2, .p T151 l), (6, .bp 6 [] 0), (7, .bp 7 [] 0), (8, .p (.int .i64) ((2 * k.1 : Nat) : Int))], [(6, .box 154 true [.p T9 ByteArray.empty, .raw (.slice none 0 0), .raw (.slice none 0 0)]), (7, .box 154 true [.p T9 n, .p T151 ([] : List ByteArray), .sr 36 T157 0 (pairG l k.1).length]), (36, .arr 157 T157 (pairG l k.1))]⟩) (fun k => l.length - 2 * k.1) ⟨0, Nat.zero_le _⟩ (ent_match [(6, .nm 6), (7, .nm 7), (36, .nil)] rfl rfl ?_ ?_) (fun k => ?_)
  ·first | exact eN | refine eM ?_
   exact ⟨rfl, rfl⟩
  ·first | exact eN | refine eM ?_
  ·obtain ⟨k, hk⟩ := k
   have hpl := pairG_len l k
   have hps := pairG_succ l k
   simp only
   repeat' (first | exact trivial | refine eS rfl ?_ | refine ev_out_inv ?_ | refine rX [0, 1, 2, 6, 7, 8, 12, 20] hc ?_ ?_ | (refine rC (fun hcond => ?_) (fun hcond => ?_) <;> try (cases hcond; done)))
   ·exact eV
   ·refine ⟨by exact eV, ⟨by exact eV, by exact eV⟩, ⟨by exact eV, by exact eV⟩, ?_⟩
    rw [hpl]
    simp only [maxN]
    exact eV
   ·exact eV
   ·have hk2 : 2 * k + 1 < l.length := by exact eV
    have e1 : ((2 * k : Nat) : Int) + 1 = ((2 * k + 1 : Nat) : Int) := by omega
    refine ⟨⟨k + 1, by omega⟩, by simp only; omega, ent_match [(6, .nm 6), (7, .nm 7), (36, .nm 36)] rfl rfl ?_ ?_⟩
    ·simp only [hps]
     first | exact eN | refine eM ?_
     rw [e1]
     rfl
    ·simp only [hps]
     first | exact eN | refine eM ?_
     show ((2 * k : Nat) : Int) + 2 = ((2 * (k + 1) : Nat) : Int)
     omega
   ·have hk2 : k = l.length / 2 := by exact eV
    refine frzE [36] ?_
    have hr : declF n s l = (n, ([] : List ByteArray), pairG l k) := by
     unfold declF declSup
     rw [← hk2, if_pos (show strEq s ByteArray.empty = true from hcd)]
    exact ev_fin hc [.cell 6 154] rfl (.inl rfl) (by simp) (by rw [hr]; first | exact eR | refine eRM ?_)
end
/- Functions of grammarlabref06: Prelude. -/
section
attribute [local go_sem] declS cs0 cs1 cs2 cs3 cs4 cs5 cs6 cs7 cs8
def preludeF : List DeclD := [
 declF { data := #[116, 111, 112] } { data := #[] } [], 
 declF { data := #[108, 105, 115, 116] } { data := #[116, 111, 112] } [], 
 declF { data := #[99, 111, 110, 115] } { data := #[108, 105, 115, 116] } [{ data := #[70, 73, 82, 83, 84] }, { data := #[116, 111, 112] }, { data := #[82, 69, 83, 84] }, { data := #[108, 105, 115, 116] }], 
 declF { data := #[110, 117, 108, 108] } { data := #[108, 105, 115, 116] } [], 
 declF { data := #[100, 108, 105, 115, 116] } { data := #[116, 111, 112] } [{ data := #[76, 73, 83, 84] }, { data := #[108, 105, 115, 116] }, { data := #[76, 65, 83, 84] }, { data := #[108, 105, 115, 116] }], 
 declF { data := #[105, 110, 100, 101, 120] } { data := #[116, 111, 112] } [], 
 declF { data := #[104, 97, 110, 100, 108, 101] } { data := #[105, 110, 100, 101, 120] } [], 
 declF { data := #[101, 118, 101, 110, 116] } { data := #[105, 110, 100, 101, 120] } [], 
 declF { data := #[101, 110, 116, 105, 116, 121] } { data := #[105, 110, 100, 101, 120] } [], 
 declF { data := #[114, 101, 108] } { data := #[116, 111, 112] } [{ data := #[76, 65, 66, 69, 76] }, { data := #[104, 97, 110, 100, 108, 101] }], 
 declF { data := #[113, 101, 113] } { data := #[116, 111, 112] } [{ data := #[72, 73, 71, 72] }, { data := #[104, 97, 110, 100, 108, 101] }, { data := #[76, 79, 87] }, { data := #[104, 97, 110, 100, 108, 101] }], 
 declF { data := #[115, 101, 109] } { data := #[116, 111, 112] } [{ data := #[84, 79, 80] }, { data := #[104, 97, 110, 100, 108, 101] }, { data := #[73, 78, 68, 69, 88] }, { data := #[105, 110, 100, 101, 120] }, { data := #[82, 69, 76, 83] }, { data := #[100, 108, 105, 115, 116] }, { data := #[67, 79, 78, 83] }, { data := #[100, 108, 105, 115, 116] }], 
 declF { data := #[115, 105, 103, 110] } { data := #[116, 111, 112] } [{ data := #[83, 69, 77] }, { data := #[115, 101, 109] }, { data := #[65, 82, 71, 83] }, { data := #[108, 105, 115, 116] }]]
def preludeS : Spec := { ins := [], pre := fun _ => True, out := fun _ => [.p T22 preludeF] }
theorem prelude_ok : FnOk Tryz.prog 53 preludeS := by
 refine fn_ok Tryz.func53 (by kernel_rfl) rfl Tryz.ntmps53 (by decide) (by kernel_rfl) (tyTab_ok [(100, declS)] [3, 6, 12, 14, 16, 18, 20]) (fns_cons decl_ok fns_nil) ?_
 rintro w0 O0 u hc - -
 simp only [preludeS, entEnv]
 repeat' (first | exact trivial | refine eS rfl ?_ | refine ev_out_inv ?_ | refine rX [0] hc ?_ ?_ | (refine rC (fun hcond => ?_) (fun hcond => ?_) <;> try (cases hcond; done)))
 exact ev_fin hc [.tmp 0] rfl (.inl rfl) (by simp) (by unfold preludeF; first | exact eR | refine eRM ?_)
end
/- Functions of grammarlabref06: Compile. -/
section
attribute [local go_sem] values5S codesS supsS featuresS
abbrev TypeD := ByteArray × List Int × List Int × List (Int × Int)
abbrev HierD := List TypeD × List FeatD
def typeG (l : List CodedD) (v : List (List (Int × Int))) (n : Nat) : List TypeD := (List.range n).map fun i => ((l.getD i c0).1, (l.getD i c0).2, supsF l (i : Int), v.getD i [])
theorem typeG_succ (l : List CodedD) (v : List (List (Int × Int))) (n : Nat) : typeG l v (n + 1) = typeG l v n ++ [((l.getD n c0).1, (l.getD n c0).2, supsF l (n : Int), v.getD n [])] := by simp [typeG, List.range_succ]
theorem typeG_len (l : List CodedD) (v : List (List (Int × Int))) (n : Nat) : (typeG l v n).length = n := by simp [typeG]
def hierV (d : List DeclD) : HierD := (typeG (codesR d) (valuesF d).1 (codesR d).length, (featuresF d).1)
def compileF (d : List DeclD) : HierD × Int := if (valuesF d).2 ≠ 0 then (([], []), (valuesF d).2) else (hierV d, 0)
def compileS : Spec := { ins := [T22], pre := fun _ => True, out := fun (d, _) => [.p T29 (compileF d).1, .p T79 (compileF d).2] }
theorem compile_ok : FnOk Tryz.prog 52 compileS := by
 refine fn_ok Tryz.func52 (by kernel_rfl) rfl Tryz.ntmps52 (by decide) (by kernel_rfl) (tyTab_ok [(96, values5S), (97, codesS), (98, supsS), (99, featuresS)]) (fns_cons values5_ok (fns_cons codes_ok (fns_cons sups_ok (fns_cons features_ok fns_nil)))) ?_
 rintro w0 O0 ⟨d, u⟩ hc - -
 simp only [compileS, entEnv]
 repeat' (first | exact trivial | refine eS rfl ?_ | refine ev_out_inv ?_ | refine rX [0, 2, 3, 4, 5, 6, 8, 9, 10, 18, 29] hc ?_ ?_ | (refine rC (fun hcond => ?_) (fun hcond => ?_) <;> try (cases hcond; done)))
 ·have h1 : compileF d = (([], []), (valuesF d).2) := by unfold compileF; rw [if_pos hcond]
  exact ev_fin hc [.cell 2 29, .tmp 3] rfl (.inl rfl) (by simp) (by rw [h1]; first | exact eR | refine eRM ?_)
 ·have hv : (valuesF d).2 = 0 := by simpa using hcond
  have h5 : check5F d = 0 := by
   unfold valuesF at hv
   split at hv
   ·rename_i h; exact absurd hv h
   ·rename_i h; exact Classical.byContradiction h
  obtain ⟨hz, hf64, hdz⟩ := check5_zero h5
  obtain ⟨h3, hlen, hl⟩ := codesF_zero hz
  have hr : compileF d = (hierV d, 0) := by unfold compileF; rw [if_neg (by rw [hv]; simp)]
  have hvl : (valuesF d).1.length = (codesR d).length := by
   unfold valuesF
   rw [if_neg (by rw [h5]; simp)]
   exact valsG_len _ _ _ _
  have hwid := codesR_wid h3
  have hll : (codesR d).length ≤ 256 := by rw [codesR_len]; exact hlen
  unfold hierV at hr
  rw [hl]
  generalize codesR d = l at *
  generalize (valuesF d).1 = v at *
  refine ev_loop (ι := {n : Nat // n ≤ l.length}) (fun n => ⟨[(0, .p T22 d), (2, .bp 2 [] 0), (4, .p T135 v), (6, .p T138 l), (8, .bp 8 [] 0), (9, .p (.int .i64) (n.1 : Int))], [(2, .box 29 true [.raw (.slice none 0 0), .raw (.slice none 0 0)]), (8, .box 29 true [.sr 53 T148 0 (typeG l v n.1).length, .raw (.slice none 0 0)]), (53, .arr 148 T148 (typeG l v n.1))]⟩) (fun n => l.length - n.1) ⟨0, Nat.zero_le _⟩ (ent_match [(2, .nm 2), (8, .nm 8), (53, .nil)] rfl rfl ?_ ?_) (fun n => ?_)
  ·first | exact eN | refine eM ?_
   exact ⟨rfl, rfl⟩
  ·first | exact eN | refine eM ?_
  ·obtain ⟨n, hn⟩ := n
   have htl := typeG_len l v n
   have hts := typeG_succ l v n
   simp only
   repeat' (first | exact trivial | refine eS rfl ?_ | refine ev_out_inv ?_ | refine rX [0, 2, 3, 4, 5, 6, 8, 9, 10, 18, 29] hc ?_ ?_ | (refine rC (fun hcond => ?_) (fun hcond => ?_) <;> try (cases hcond; done)))
   ·refine ⟨hcond, hcond, ⟨hcond, hll, hwid⟩, by rw [hvl]; exact hcond, ?_⟩
    rw [htl]
    simp only [maxN]
    omega
   ·omega
   ·have hn2 : n < l.length := Int.ofNat_lt.1 hcond
    refine ⟨⟨n + 1, hn2⟩, by simp only; omega, ent_match [(2, .nm 2), (8, .nm 8), (53, .nm 53)] rfl rfl ?_ ?_⟩
    ·simp only [hts]
     first | exact eN | refine eM ?_
    ·simp only [hts]
     first | exact eN | refine eM ?_
   ·have hn2 : n = l.length := by omega
    subst hn2
    refine frzE [53] ?_
    exact ev_fin hc [.cell 2 29, .tmp 3] rfl (.inl rfl) (by simp) (by rw [hr]; first | exact eR | refine eRM ?_)
def hierF (d : List DeclD) : HierD := if d.length ≤ 20 ∧ (compileF d).2 = 0 then (compileF d).1 else (compileF preludeF).1
end
/- Functions of bits: word, Subset; hier: Subsumes. -/
section
def wordPS : Spec := { ins := [T142, T3], pre := fun (_, i, _) => (0 : Int) ≤ i, out := fun (b, i, _) => [.p T209 (wordF b i)], lend := true }
attribute [local go_sem] wordPS
theorem wordP_ok : FnOk Tryz.prog 192 wordPS := by
 refine fn_ok Tryz.func192 (by kernel_rfl) rfl Tryz.ntmps192 (by decide) (by kernel_rfl) (tyTab_ok []) fns_nil ?_
 rintro w0 O0 ⟨b, i, u⟩ hc - hi
 simp only [wordPS, entEnv]
 repeat' (first | exact trivial | refine eS rfl ?_ | refine ev_out_inv ?_ | refine rX [0, 1, 4, 8] hc ?_ ?_ | (refine rC (fun hcond => ?_) (fun hcond => ?_) <;> try (cases hcond; done)))
 ·exact ⟨hi, hcond⟩
 ·have h1 : wordF b i = b.getD i.toNat 0 := by unfold wordF; rw [if_pos hcond]
  exact ev_fin hc [.tmp 4] rfl (.inl rfl) (by simp) (by rw [h1]; first | exact eR | refine eRM ?_)
 ·have h1 : wordF b i = 0 := by unfold wordF; rw [if_neg (Int.not_lt.2 hcond)]
  exact ev_fin hc [.tmp 4] rfl (.inl rfl) (by simp) (by rw [h1]; first | exact eR | refine eRM ?_)
def subPF (a b : List Int) : Bool := (List.range a.length).all fun i => bitsV .andNot .u64 (a.getD i 0) (wordF b (i : Int)) == 0
def subPG (a b : List Int) (n : Nat) : Bool := (List.range n).all fun i => bitsV .andNot .u64 (a.getD i 0) (wordF b (i : Int)) == 0
theorem subPG_succ (a b : List Int) (n : Nat) : subPG a b (n + 1) = (subPG a b n && bitsV .andNot .u64 (a.getD n 0) (wordF b (n : Int)) == 0) := by
 unfold subPG
 rw [List.range_succ, List.all_append]
 simp
def subsetPS : Spec := { ins := [T142, T142], pre := fun _ => True, out := fun (a, b, _) => [.p .bool (subPF a b)], lend := true }
attribute [local go_sem] subsetPS
theorem subsetP_ok : FnOk Tryz.prog 148 subsetPS := by
 refine fn_ok Tryz.func148 (by kernel_rfl) rfl Tryz.ntmps148 (by decide) (by kernel_rfl) (tyTab_ok [(192, wordPS)]) (fns_cons wordP_ok fns_nil) ?_
 rintro w0 O0 ⟨a, b, u⟩ hc ⟨⟨hal, -⟩, -⟩ -
 simp only [maxN] at hal
 simp only [subsetPS, entEnv]
 repeat' (first | exact trivial | refine eS rfl ?_ | refine ev_out_inv ?_ | refine rX [0, 1, 4, 5, 6, 7, 8, 9, 10, 19] hc ?_ ?_ | (refine rC (fun hcond => ?_) (fun hcond => ?_) <;> try (cases hcond; done)))
 have hfp : subPF a b = subPG a b a.length := rfl
 refine ev_loop (ι := {n : Nat // n ≤ a.length ∧ subPG a b n = true}) (fun n => ⟨[(1, .p T142 b), (7, .p T142 a), (8, .p (.int .i64) (a.length : Int)), (9, .p (.int .i64) (n.1 : Int))], []⟩) (fun n => a.length - n.1) ⟨0, Nat.zero_le _, rfl⟩ (ent_match [] rfl rfl ?_ ?_) (fun n => ?_)
 ·first | exact eN | refine eM ?_
 ·first | exact eN | refine eM ?_
 ·obtain ⟨n, hn, hall⟩ := n
  have hs := subPG_succ a b n
  simp only
  repeat' (first | exact trivial | refine eS rfl ?_ | refine ev_out_inv ?_ | refine rX [0, 1, 4, 5, 6, 7, 8, 9, 10, 19] hc ?_ ?_ | (refine rC (fun hcond => ?_) (fun hcond => ?_) <;> try (cases hcond; done)))
  ·exact hcond
  ·have hn2 : n < a.length := by exact eV
   have h1 : subPF a b = false := by
    unfold subPF
    rw [List.all_eq_false]
    exact ⟨n, List.mem_range.2 hn2, by simpa using hcond⟩
   exact ev_fin hc [.tmp 4] rfl (.inl rfl) (by simp) (by rw [h1]; first | exact eR | refine eRM ?_)
  ·exact eV
  ·have hn2 : n < a.length := by exact eV
   refine ⟨⟨n + 1, hn2, ?_⟩, by simp only; omega, ent_match [] rfl rfl ?_ ?_⟩
   ·rw [hs, hall]
    simpa using hcond
   ·first | exact eN | refine eM ?_
   ·first | exact eN | refine eM ?_
  ·have hn2 : n = a.length := by exact eV
   subst hn2
   exact ev_fin hc [.tmp 4] rfl (.inl rfl) (by simp) (by rw [hfp, hall]; first | exact eR | refine eRM ?_)
abbrev t0D : TypeD := (ByteArray.empty, [], [], [])
def hsubF (h : HierD) (a b : Int) : Bool := subPF (h.1.getD b.toNat t0D).2.1 (h.1.getD a.toNat t0D).2.1
def hsubS : Spec := { ins := [T29, T3, T3], pre := fun (h, a, b, _) => ((0 : Int) ≤ a ∧ a < (List.length (h : HierD).1 : Int)) ∧ ((0 : Int) ≤ b ∧ b < (List.length (h : HierD).1 : Int)), out := fun (h, a, b, _) => [.p .bool (hsubF h a b)], lend := true }
theorem hsub_ok : FnOk Tryz.prog 125 hsubS := by
 refine fn_ok Tryz.func125 (by kernel_rfl) rfl Tryz.ntmps125 (by decide) (by kernel_rfl) (tyTab_ok [(148, subsetPS)]) (fns_cons subsetP_ok fns_nil) ?_
 rintro w0 O0 ⟨⟨ht, hf⟩, a, b, u⟩ hc - ⟨ha, hb⟩
 simp only [hsubS, entEnv]
 repeat' (first | exact trivial | refine eS rfl ?_ | refine ev_out_inv ?_ | refine rX [0, 1, 2, 3, 6] hc ?_ ?_ | (refine rC (fun hcond => ?_) (fun hcond => ?_) <;> try (cases hcond; done)))
 ·exact ⟨hb, ha⟩
 ·exact ev_fin hc [.tmp 6] rfl (.inl rfl) (by simp) (by unfold hsubF; first | exact eR | refine eRM ?_)
end
/- Functions of bits: normal, And, Equal; hier: Meet. -/
section
attribute [local go_sem] subsetPS
def normalPS : Spec := { ins := [T142], pre := fun (b, _) => List.length b ≤ 100000, out := fun (b, _) => [.p T142 (normalF b)] }
attribute [local go_sem] normalPS
theorem normalP_ok : FnOk Tryz.prog 147 normalPS := by
 refine fn_ok Tryz.func147 (by kernel_rfl) rfl Tryz.ntmps147 (by decide) (by kernel_rfl) (tyTab_ok []) fns_nil ?_
 rintro w0 O0 ⟨b, u⟩ hc - hb
 have hb : b.length ≤ 100000 := hb
 simp only [normalPS, entEnv]
 repeat' (first | exact trivial | refine eS rfl ?_ | refine ev_out_inv ?_ | refine rX [0, 2, 3, 15] hc ?_ ?_ | (refine rC (fun hcond => ?_) (fun hcond => ?_) <;> try (cases hcond; done)))
 refine ev_loop (ι := {n : Nat // n ≤ b.length ∧ normN b n = normN b b.length}) (fun n => ⟨[(0, .p T142 b), (3, .p (.int .i64) (n.1 : Int))], []⟩) (fun n => n.1) ⟨b.length, Nat.le_refl _, rfl⟩ (ent_match [] rfl rfl ?_ ?_) (fun n => ?_)
 ·first | exact eN | refine eM ?_
 ·first | exact eN | refine eM ?_
 ·obtain ⟨n, hn, hg⟩ := n
  simp only
  repeat' (first | exact trivial | refine eS rfl ?_ | refine ev_out_inv ?_ | refine rX [0, 2, 3, 15] hc ?_ ?_ | (refine rC (fun hcond => ?_) (fun hcond => ?_) <;> try (cases hcond; done)))
  ·constructor
   ·exact eV
   ·intro h
    refine ⟨?_, ?_⟩ <;> exact eV
  ·exact eV
  ·obtain ⟨h1, h2⟩ := hcond
   obtain ⟨m, rfl⟩ : ∃ m, n = m + 1 := ⟨n - 1, by omega⟩
   have e : (((m + 1 : Nat) : Int) - 1) = (m : Int) := by omega
   rw [e] at h2
   have h2 : b.getD m 0 = 0 := h2
   have hg2 : normN b m = normN b b.length := by
    rw [← hg]
    show _ = if b.getD m 0 = 0 then normN b m else m + 1
    rw [if_pos h2]
   refine ⟨⟨m, by omega, hg2⟩, by simp, ent_match [] rfl rfl ?_ ?_⟩
   ·first | exact eN | refine eM ?_
   ·simp only [e]
    first | exact eN | refine eM ?_
  ·exact Int.ofNat_le.2 hn
  ·have hend : normN b n = n := by
    cases n with
    | zero => rfl
    | succ m =>
     have e : (((m + 1 : Nat) : Int) - 1) = (m : Int) := by omega
     rw [e] at hcond
     have h2 := hcond (by omega)
     have h2 : ¬ b.getD m 0 = 0 := h2
     show (if b.getD m 0 = 0 then normN b m else m + 1) = m + 1
     rw [if_neg h2]
   have h1 : normalF b = b.take n := by unfold normalF; rw [← hg, hend]
   rw [← h1]
   exact ev_fin hc [.tmp 2] rfl (.inl rfl) (by simp) (by first | exact eR | refine eRM ?_)
def fillX (g : Nat → Int) (n i : Nat) : List Int := (List.range n).map fun j => if j < i then g j else 0
theorem fillX_len (g : Nat → Int) (n i : Nat) : (fillX g n i).length = n := by simp [fillX]
theorem fillX_zero (g : Nat → Int) (n : Nat) : fillX g n 0 = List.replicate n 0 := by
 apply List.ext_getElem
 ·simp [fillX]
 ·intro j h1 h2
  simp [fillX]
theorem fillX_set (g : Nat → Int) (n i : Nat) : (fillX g n i).set i (g i) = fillX g n (i + 1) := by
 apply List.ext_getElem
 ·simp [fillX]
 ·intro j h1 h2
  simp only [fillX, List.getElem_set, List.getElem_map, List.getElem_range]
  split
  ·rename_i e; rw [if_pos (by omega), e]
  ·rename_i e
   by_cases hj : j < i
   ·rw [if_pos hj, if_pos (by omega)]
   ·rw [if_neg hj, if_neg (by omega)]
def andW (a b : List Int) (i : Nat) : Int := bitsV .and .u64 (a.getD i 0) (b.getD i 0)
def andPF (a b : List Int) : List Int := normalF (fillX (andW a b) (min a.length b.length) (min a.length b.length))
def andPS : Spec := { ins := [T142, T142], pre := fun (a, _, _) => List.length a ≤ 100000, out := fun (a, b, _) => [.p T142 (andPF a b)] }
attribute [local go_sem] andPS
theorem andP_ok : FnOk Tryz.prog 112 andPS := by
 refine fn_ok Tryz.func112 (by kernel_rfl) rfl Tryz.ntmps112 (by decide) (by kernel_rfl) (tyTab_ok [(147, normalPS)]) (fns_cons normalP_ok fns_nil) ?_
 rintro w0 O0 ⟨a, b, u⟩ hc - ha
 have ha : a.length ≤ 100000 := ha
 simp only [andPS, entEnv]
 repeat' (first | exact trivial | refine eS rfl ?_ | refine ev_out_inv ?_ | refine rX [0, 1, 4, 5, 6, 14, 15, 16] hc ?_ ?_ | (refine rC (fun hcond => ?_) (fun hcond => ?_) <;> try (cases hcond; done)))
 ·split <;> simp only [maxN] <;> dsimp only [Ty.den] at * <;> omega
 ·have hmin : Int.toNat (if ((List.length b : Nat) : Int) < ((List.length a : Nat) : Int) then ((List.length b : Nat) : Int) else ((List.length a : Nat) : Int)) = min (List.length a) (List.length b) := by split <;> omega
  rw [hmin]
  have hr : andPF a b = normalF (fillX (andW a b) (min a.length b.length) (min a.length b.length)) := rfl
  have hma : min a.length b.length ≤ a.length := Nat.min_le_left _ _
  have hmb : min a.length b.length ≤ b.length := Nat.min_le_right _ _
  generalize min a.length b.length = n at *
  refine ev_loop (ι := {i : Nat // i ≤ n}) (fun i => ⟨[(0, .p T142 a), (1, .p T142 b), (5, .sr 12 T209 0 n), (14, .p (.int .i64) (n : Int)), (15, .p (.int .i64) (i.1 : Int))], [(12, .arr 209 T209 (fillX (andW a b) n i.1))]⟩) (fun i => n - i.1) ⟨0, Nat.zero_le _⟩ (ent_match [(12, .nm 12)] rfl rfl ?_ ?_) (fun i => ?_)
  ·first | exact eN | refine eM ?_
   rw [fillX_zero]
  ·first | exact eN | refine eM ?_
  ·obtain ⟨i, hi⟩ := i
   have hfl := fillX_len (andW a b) n i
   simp only
   repeat' (first | exact trivial | refine eS rfl ?_ | refine ev_out_inv ?_ | refine rX [0, 1, 4, 5, 6, 14, 15, 16] hc ?_ ?_ | (refine rC (fun hcond => ?_) (fun hcond => ?_) <;> try (cases hcond; done)))
   ·have hi2 : i < n := Int.ofNat_lt.1 hcond
    exact ⟨by exact eV, by exact eV, hcond⟩
   ·exact eV
   ·have hi2 : i < n := Int.ofNat_lt.1 hcond
    refine ⟨⟨i + 1, hi2⟩, by simp only; omega, ent_match [(12, .nm 12)] rfl rfl ?_ ?_⟩
    ·simp only [← fillX_set]
     first | exact eN | refine eM ?_
     rfl
    ·first | exact eN | refine eM ?_
   ·have hi2 : i = n := by omega
    subst hi2
    have ht : (fillX (andW a b) i i).take i = fillX (andW a b) i i := List.take_of_length_le (by rw [hfl]; exact Nat.le_refl _)
    refine frzE [12] ?_
    repeat' (first | exact trivial | refine eS rfl ?_ | refine ev_out_inv ?_ | refine rX [0, 1, 4, 5, 6, 14, 15, 16] hc ?_ ?_ | (refine rC (fun hcond => ?_) (fun hcond => ?_) <;> try (cases hcond; done)))
    ·rw [ht, hfl]
     dsimp only [Ty.den] at *
     omega
    ·rw [ht]
     exact ev_fin hc [.tmp 4] rfl (.inl rfl) (by simp) (by rw [hr]; first | exact eR | refine eRM ?_)
def equalPF (a b : List Int) : Bool := subPF a b && subPF b a
def equalPS : Spec := { ins := [T142, T142], pre := fun _ => True, out := fun (a, b, _) => [.p .bool (equalPF a b)], lend := true }
attribute [local go_sem] equalPS
theorem equalP_ok : FnOk Tryz.prog 115 equalPS := by
 refine fn_ok Tryz.func115 (by kernel_rfl) rfl Tryz.ntmps115 (by decide) (by kernel_rfl) (tyTab_ok [(148, subsetPS)]) (fns_cons subsetP_ok fns_nil) ?_
 rintro w0 O0 ⟨a, b, u⟩ hc - -
 simp only [equalPS, entEnv]
 repeat' (first | exact trivial | refine eS rfl ?_ | refine ev_out_inv ?_ | refine rX [0, 1, 4] hc ?_ ?_ | (refine rC (fun hcond => ?_) (fun hcond => ?_) <;> try (cases hcond; done)))
 exact ev_fin hc [.tmp 4] rfl (.inl rfl) (by simp) (by unfold equalPF; first | exact eR | refine eRM ?_)
def meetI (c : List Int) : Nat → List TypeD → Int
 | _, [] => -1
 | k, t :: l => if equalPF t.2.1 c = true then (k : Int) else meetI c (k + 1) l
theorem meetI_step (c : List Int) (l : List TypeD) {k : Nat} (h : k < l.length) : meetI c k (l.drop k) = if equalPF (l.getD k t0D).2.1 c = true then (k : Int) else meetI c (k + 1) (l.drop (k + 1)) := by
 rw [List.drop_eq_getElem_cons h]
 have e : l.getD k t0D = l[k] := by simp [List.getD_eq_getElem?_getD, h]
 rw [e]
 rfl
theorem meetC_ok (c : List Int) (t : TypeD) : CallM Tryz.prog 114 [.p T148 t, .bp 1 [] 0] [(1, .box 142 false [.p T142 c])] [1] (fun res objs' => res = .p .bool (equalPF t.2.1 c) ∧ objs' = [(1, .box 142 false [.p T142 c])]) := by
 refine fnM_ok Tryz.func114 (by kernel_rfl) rfl Tryz.ntmps114 (by simp only [List.length_cons, List.length_nil]; omega) (by kernel_rfl) rfl rfl (tyTab_ok [(115, equalPS)]) (fns_cons equalP_ok fns_nil) ?_
 intro w0 K O0 ρ0 hc hok1 hok2
 simp only [argEnv]
 repeat' (first | exact trivial | refine eS rfl ?_ | refine ev_out_inv ?_ | refine rX [0, 1, 2, 3] hc ?_ ?_ | (refine rC (fun hcond => ?_) (fun hcond => ?_) <;> try (cases hcond; done)))
 refine Ev.ent (σ' := ⟨[(3, .p .bool (equalPF t.2.1 c))], [(1, .box 142 false [.p T142 c])]⟩) ?_ (ent_match [(1, .nm 1)] rfl rfl ?_ ?_)
 ·exact ev_finM hc [.tmp 3] rfl (.inl rfl) (.p .bool (equalPF t.2.1 c)) eT ⟨rfl, rfl⟩
 ·first | exact eN | refine eM ?_
 ·first | exact eN | refine eM ?_
theorem indexM_ok (l : List TypeD) (c : List Int) (hl : l.length ≤ 100000) : CallM Tryz.prog 113 [.p T26 l, .clo 114 [1]] [(1, .box 142 false [.p T142 c])] [1] (fun res objs' => res = .p T3 (meetI c 0 l) ∧ objs' = [(1, .box 142 false [.p T142 c])]) := by
 refine fnM_ok Tryz.func113 (by kernel_rfl) rfl Tryz.ntmps113 (by simp only [List.length_cons, List.length_nil]; omega) (by kernel_rfl) rfl rfl (tyTab_ok []) fns_nil ?_
 intro w0 K O0 ρ0 hc hok1 hok2
 simp only [argEnv]
 repeat' (first | exact trivial | refine eS rfl ?_ | refine ev_out_inv ?_ | refine rX [0, 1, 4, 5, 7, 8, 9, 16] hc ?_ ?_ | (refine rC (fun hcond => ?_) (fun hcond => ?_) <;> try (cases hcond; done)))
 refine ev_loop (ι := {k : Nat // k ≤ l.length ∧ meetI c k (l.drop k) = meetI c 0 l}) (fun k => ⟨[(0, .p T26 l), (1, .clo 114 [1]), (7, .p (.int .i64) (l.length : Int)), (8, .p (.int .i64) (k.1 : Int))], [(1, .box 142 false [.p T142 c])]⟩) (fun k => l.length - k.1) ⟨0, Nat.zero_le _, rfl⟩ (ent_match [(1, .nm 1)] rfl rfl ?_ ?_) (fun k => ?_)
 ·first | exact eN | refine eM ?_
 ·first | exact eN | refine eM ?_
 ·obtain ⟨k, hk, hf⟩ := k
  have hst := fun h : k < l.length => meetI_step c l h
  simp only
  repeat' (first | exact trivial | refine eS rfl ?_ | refine ev_out_inv ?_ | refine rX [0, 1, 4, 5, 7, 8, 9, 16] hc ?_ ?_ | (refine rC (fun hcond => ?_) (fun hcond => ?_) <;> try (cases hcond; done)))
  ·have hk2 : k < l.length := Int.ofNat_lt.1 hcond
   have hs2 := hst hk2
   refine cP 5 hc ?_ ?_
   ·exact hcond
   ·refine rM hc (meetC_ok c (l.getD k t0D)) [(1, .nm 1)] [] ?_ ?_ ?_
    ·first | exact eN | refine eM ?_
    ·first | exact eN | refine eM ?_
    ·rintro _ _ ⟨rfl, rfl⟩
     refine ⟨[(1, .nm 1)], .p .bool (equalPF (l.getD k t0D).2.1 c), [(1, .box 142 false [.p T142 c])], rfl, rfl, ?_, ?_, rfl, rfl, evL_end ?_⟩
     ·first | exact eN | refine eM ?_
     ·first | exact eN | refine eM ?_
     ·repeat' (first | exact trivial | refine eS rfl ?_ | refine ev_out_inv ?_ | refine rX [0, 1, 4, 5, 7, 8, 9, 16] hc ?_ ?_ | (refine rC (fun hcond => ?_) (fun hcond => ?_) <;> try (cases hcond; done)))
      ·have hcond : equalPF (l.getD k t0D).2.1 c = true := hcond
       rw [if_pos hcond, hf] at hs2
       refine Ev.ent (σ' := ⟨[(4, .p (.int .i64) (k : Int))], [(1, .box 142 false [.p T142 c])]⟩) ?_ (ent_match [(1, .nm 1)] rfl rfl ?_ ?_)
       ·exact ev_finM hc [.tmp 4] rfl (.inl rfl) (.p T3 (k : Int)) eT ⟨by rw [hs2], rfl⟩
       ·first | exact eN | refine eM ?_
       ·first | exact eN | refine eM ?_
      ·omega
      ·have hcond : equalPF (l.getD k t0D).2.1 c = false := hcond
       rw [if_neg (by rw [hcond]; simp)] at hs2
       refine ⟨⟨k + 1, hk2, hs2.symm.trans hf⟩, by simp only; omega, ent_match [(1, .nm 1)] rfl rfl ?_ ?_⟩
       ·first | exact eN | refine eM ?_
       ·first | exact eN | refine eM ?_
  ·have hk2 : l.drop k = [] := List.drop_eq_nil_of_le (Int.ofNat_le.1 hcond)
   rw [hk2] at hf
   have hf : (-1 : Int) = meetI c 0 l := hf
   refine Ev.ent (σ' := ⟨[(4, .p (.int .i64) (-1))], [(1, .box 142 false [.p T142 c])]⟩) ?_ (ent_match [(1, .nm 1)] rfl rfl ?_ ?_)
   ·exact ev_finM hc [.tmp 4] rfl (.inl rfl) (.p T3 (-1)) eT ⟨by rw [hf], rfl⟩
   ·first | exact eN | refine eM ?_
   ·first | exact eN | refine eM ?_
def codeT (h : HierD) (t : Int) : List Int := (h.1.getD t.toNat t0D).2.1
def meetF (h : HierD) (a b : Int) : Int × Bool :=
 if (andPF (codeT h a) (codeT h b)).length = 0 then (0, false) else if meetI (andPF (codeT h a) (codeT h b)) 0 h.1 < 0 then (0, false) else (meetI (andPF (codeT h a) (codeT h b)) 0 h.1, true)
def meetS : Spec := { ins := [T29, T3, T3], pre := fun (h, a, b, _) => ((0 : Int) ≤ a ∧ a < (List.length (h : HierD).1 : Int)) ∧ ((0 : Int) ≤ b ∧ b < (List.length (h : HierD).1 : Int)) ∧ List.length (h : HierD).1 ≤ 100000 ∧ (∀ x ∈ (h : HierD).1, x.2.1.length ≤ 100000), out := fun (h, a, b, _) => [.p T3 (meetF h a b).1, .p .bool (meetF h a b).2], lend := true }
theorem meet_ok : FnOk Tryz.prog 76 meetS := by
 refine fn_ok Tryz.func76 (by kernel_rfl) rfl Tryz.ntmps76 (by decide) (by kernel_rfl) (tyTab_ok [(112, andPS)]) (fns_cons andP_ok fns_nil) ?_
 rintro w0 O0 ⟨⟨ht, hf⟩, a, b, u⟩ hc - ⟨ha, hb, hl, hx⟩
 simp only [meetS, entEnv]
 refine Ev.ent (σ' := ⟨[(0, .p T29 (ht, hf)), (1, .p T3 a), (2, .p T3 b)], []⟩) ?_ (ent_match [] rfl rfl ?_ ?_)
 ·repeat' (first | exact trivial | refine eS rfl ?_ | refine ev_out_inv ?_ | refine rX [0, 1, 2, 3, 6, 7, 8, 9, 25, 31] hc ?_ ?_ | (refine rC (fun hcond => ?_) (fun hcond => ?_) <;> try (cases hcond; done)))
  ·refine ⟨ha, hb, ?_⟩
   have h1 : Int.toNat a < List.length ht := (Int.toNat_lt ha.1).2 ha.2
   exact hx _ (mem_of_take_succ (ht : List TypeD) t0D h1)
  ·have hr : meetF (ht, hf) a b = (0, false) := by
    unfold meetF
    rw [if_pos (by unfold codeT; exact Int.ofNat.inj hcond)]
   exact ev_fin hc [.tmp 6, .tmp 7] rfl (.inl rfl) (by simp) (by rw [hr]; first | exact eR | refine eRM ?_)
  ·have hcd : ∀ c, c = andPF (List.getD ht (Int.toNat a) (ByteArray.empty, [], [], [])).2.1 (List.getD ht (Int.toNat b) (ByteArray.empty, [], [], [])).2.1 → c = andPF (codeT (ht, hf) a) (codeT (ht, hf) b) := fun c h => h
   have hmf : meetF (ht, hf) a b = if meetI (andPF (codeT (ht, hf) a) (codeT (ht, hf) b)) 0 ht < 0 then (0, false) else (meetI (andPF (codeT (ht, hf) a) (codeT (ht, hf) b)) 0 ht, true) := by
    unfold meetF
    rw [if_neg (fun h => hcond (by unfold codeT at h; exact congrArg Int.ofNat h))]
   generalize hcg : andPF (List.getD ht (Int.toNat a) (ByteArray.empty, [], [], [])).2.1 (List.getD ht (Int.toNat b) (ByteArray.empty, [], [], [])).2.1 = c at *
   rw [← hcd c rfl] at hmf
   refine cP 3 hc ?_ ?_
   ·trivial
   ·refine rM hc (indexM_ok ht c hl) [(1, .nm 8)] [] ?_ ?_ ?_
    ·first | exact eN | refine eM ?_
    ·first | exact eN | refine eM ?_
    ·rintro _ _ ⟨rfl, rfl⟩
     refine ⟨[(8, .nm 1)], .p T3 (meetI c 0 ht), [(8, .box 142 false [.p T142 c])], rfl, rfl, ?_, ?_, rfl, rfl, ?_⟩
     ·first | exact eN | refine eM ?_
     ·first | exact eN | refine eM ?_
     ·generalize meetI c 0 ht = m at *
      refine rL [0, 1, 2, 3, 6, 7, 8, 9, 25, 31] hc ?_ ?_
      ·trivial
      ·repeat' (first | exact trivial | refine eS rfl ?_ | refine ev_out_inv ?_ | refine rX [0, 1, 2, 3, 6, 7, 8, 9, 25, 31] hc ?_ ?_ | (refine rC (fun hcond => ?_) (fun hcond => ?_) <;> try (cases hcond; done)))
       ·rw [if_pos hcond] at hmf
        exact ev_fin hc [.tmp 6, .tmp 7] rfl (.inl rfl) (by simp) (by rw [hmf]; first | exact eR | refine eRM ?_)
       ·rw [if_neg (Int.not_lt.2 hcond)] at hmf
        exact ev_fin hc [.tmp 6, .tmp 7] rfl (.inl rfl) (by simp) (by rw [hmf]; first | exact eR | refine eRM ?_)
 ·first | exact eN | refine eM ?_
 ·first | exact eN | refine eM ?_
end
/- Plain: hier.Meet finds the most general common subtype. -/
section
structure CodesOk (l : List (List Int)) : Prop where
 wds : ∀ c ∈ l, Wds c
 some : ∀ c ∈ l, ∃ i, bitN c i = true
 wid : ∀ c ∈ l, c.length ≤ 64
 meet : ∀ a ∈ l, ∀ b ∈ l, (∃ i, bitN a i = true ∧ bitN b i = true) → ∃ t ∈ l, ∀ i, bitN t i = (bitN a i && bitN b i)
structure Bs (l : List (List Int)) : Prop where
 wds : ∀ c ∈ l, Wds c
 some : ∀ c ∈ l, ∃ i, bitN c i = true
theorem getD_mem2 {l : List (List Int)} {k : Nat} (h : ¬ k < l.length) : l.getD k [] = [] := by
 rw [List.getD_eq_getElem?_getD, List.getElem?_eq_none (by omega)]; rfl
theorem Bs.get {l : List (List Int)} (h : Bs l) (k : Nat) : Wds (l.getD k []) := by
 by_cases hk : k < l.length
 ·exact h.wds _ (getD_mem hk)
 ·rw [getD_mem2 hk]
  intro x hx
  cases hx
theorem famK_bs {l : List (List Int)} (h : Bs l) (i k : Nat) : Bs (famK l i k) := by
 unfold famK
 split
 ·rename_i hc
  rw [Bool.and_eq_true, decide_eq_true_eq] at hc
  refine ⟨fun c hc' => ?_, fun c hc' => ?_⟩
  ·rcases List.mem_append.1 hc' with hc' | hc'
   ·exact h.wds c hc'
   ·have : c = andF (l.getD i []) (l.getD k []) := by simpa using hc'
    rw [this]
    exact and_wds (h.get i) (h.get k)
  ·rcases List.mem_append.1 hc' with hc' | hc'
   ·exact h.some c hc'
   ·have : c = andF (l.getD i []) (l.getD k []) := by simpa using hc'
    rw [this]
    have hne : andF (l.getD i []) (l.getD k []) ≠ [] := by
     intro e
     rw [e] at hc
     exact absurd hc.1 (by simp)
    have hz : Wds (zipL .and (l.getD i []) (l.getD k []) (l.getD i []).length) := by
     intro x hx
     unfold zipL at hx
     obtain ⟨j, -, rfl⟩ := List.mem_map.1 hx
     rw [wordF_nat, and_bits (getD_U64 (h.get i) _) (getD_U64 (h.get k) _)]
     have h1 := getD_U64 (h.get i) j
     have h2 : ((l.getD i []).getD j 0).toNat &&& ((l.getD k []).getD j 0).toNat ≤ ((l.getD i []).getD j 0).toNat := Nat.and_le_left
     have h3 := h1.1
     have h4 := h1.2
     exact ⟨Int.natCast_nonneg _, by omega⟩
    obtain ⟨j, hj⟩ := normal_bit hz hne
    exact ⟨j, by unfold andF; rw [bit_normal]; exact hj⟩
 ·exact h
theorem famI_bs {i : Nat} : ∀ {n k : Nat} {l : List (List Int)}, Bs l → Bs (famI i n k l)
 | 0, _, _, h => h
 | n + 1, k, l, h => by
  unfold famI
  split
  ·exact famI_bs (famK_bs h i k)
  ·exact h
theorem famG_bs : ∀ {n i : Nat} {l : List (List Int)}, Bs l → Bs (famG n i l)
 | 0, _, _, h => h
 | n + 1, i, l, h => by
  unfold famG
  split
  ·exact famG_bs (famI_bs h)
  ·exact h
theorem codesL_bs {d : List DeclD} (h3 : check3F d = 0) : Bs (codesL d) := by
 obtain ⟨-, h2, -⟩ := check3_zero h3
 have hnl := namesL_len d d.length
 rw [List.take_length] at hnl
 have hal : (namesL d).length ≤ 4096 := by omega
 refine ⟨fun c hc => ?_, fun c hc => ?_⟩
 ·unfold codesL at hc
  obtain ⟨s, -, rfl⟩ := List.mem_map.1 hc
  exact (code_bit (d := d) hal s 0).2.1
 ·unfold codesL at hc
  obtain ⟨s, hs, rfl⟩ := List.mem_map.1 hc
  obtain ⟨j, hj, e⟩ := mem_getD ByteArray.empty hs
  have hsd : 0 ≤ dfindF d s := by
   obtain ⟨x, hx, e⟩ := namesL_mem hs
   rw [← e]; exact dfind_self hx
  exact ⟨j, (code_bit (d := d) hal s j).1.2 ⟨hj, by rw [e]; exact below_self hsd⟩⟩
theorem family_ok2 {d : List DeclD} (h3 : check3F d = 0) (hl : (familyF (codesL d)).length ≤ 256) : CodesOk (familyF (codesL d)) := by
 obtain ⟨-, h2, -⟩ := check3_zero h3
 have hb : Bs (familyF (codesL d)) := famG_bs (codesL_bs h3)
 have hm := family_meets hl
 refine ⟨hb.wds, hb.some, famG_wid (codesL_wid h2), fun a ha b hb2 hi => ?_⟩
 obtain ⟨q, hq, rfl⟩ := mem_getD [] ha
 obtain ⟨p, hp, rfl⟩ := mem_getD [] hb2
 have key : ∀ q p, q < (familyF (codesL d)).length → p < (familyF (codesL d)).length → Meets (familyF (codesL d)) q p → (∃ i, bitN ((familyF (codesL d)).getD q []) i = true ∧ bitN ((familyF (codesL d)).getD p []) i = true) →
   ∃ t ∈ familyF (codesL d), ∀ i, bitN t i = (bitN ((familyF (codesL d)).getD q []) i && bitN ((familyF (codesL d)).getD p []) i) := by
  intro q p hq hp hmm hi
  have hand := and_bit (hb.get q) (hb.get p)
  rcases hmm with hmm | hmm
  ·obtain ⟨i, i1, i2⟩ := hi
   have := hand i
   rw [hmm, i1, i2] at this
   unfold bitN at this
   simp at this
  ·exact ⟨_, hmm, hand⟩
 rcases Nat.lt_trichotomy p q with h | h | h
 ·exact key q p hq hp (hm q p h hq) hi
 ·subst h
  exact ⟨_, getD_mem hq, fun i => by rw [Bool.and_self]⟩
 ·obtain ⟨t, ht, e⟩ := key p q hp hq (hm p q h hp) (by obtain ⟨i, i1, i2⟩ := hi; exact ⟨i, i2, i1⟩)
  exact ⟨t, ht, fun i => by rw [e i, Bool.and_comm]⟩
def HOk (h : HierD) : Prop := CodesOk (h.1.map fun t => t.2.1) ∧ h.1.length ≤ 256
theorem compile_hok (d : List DeclD) : HOk (compileF d).1 := by
 unfold compileF
 split
 ·exact ⟨⟨fun c h => (by cases h), fun c h => (by cases h), fun c h => (by cases h), fun c h => (by cases h)⟩, by simp⟩
 ·rename_i hv
  have hv : (valuesF d).2 = 0 := Classical.byContradiction hv
  have h5 : check5F d = 0 := by
   unfold valuesF at hv
   split at hv
   ·rename_i h; exact absurd hv h
   ·rename_i h; exact Classical.byContradiction h
  obtain ⟨hz, -, -⟩ := check5_zero h5
  obtain ⟨h3, hlen, -⟩ := codesF_zero hz
  have hf := family_ok2 h3 hlen
  have hmem : ∀ c, c ∈ ((hierV d).1.map fun t => t.2.1) ↔ c ∈ familyF (codesL d) := by
   intro c
   have e : ((hierV d).1.map fun t => t.2.1) = (codesR d).map fun x => x.2 := by
    show ((typeG _ _ _).map fun t => t.2.1) = _
    unfold typeG
    rw [List.map_map]
    apply List.ext_getElem
    ·simp
    ·intro i h1 h2
     simp [List.getD_eq_getElem?_getD, show i < (codesR d).length by simpa using h1]
   rw [e]
   constructor
   ·intro h
    obtain ⟨x, hx, rfl⟩ := List.mem_map.1 h
    obtain ⟨b, hb, rfl⟩ := codesR_mem.1 hx
    exact hb
   ·intro h
    exact List.mem_map.2 ⟨_, codesR_mem.2 ⟨c, h, rfl⟩, rfl⟩
  refine ⟨⟨fun c h => hf.wds c ((hmem c).1 h), fun c h => hf.some c ((hmem c).1 h), fun c h => hf.wid c ((hmem c).1 h), fun a ha b hb hi => ?_⟩, ?_⟩
  ·obtain ⟨t, ht, e⟩ := hf.meet a ((hmem a).1 ha) b ((hmem b).1 hb) hi
   exact ⟨t, (hmem t).2 ht, e⟩
  ·show (typeG _ _ _).length ≤ 256
   rw [typeG_len, codesR_len]
   exact hlen
/-! Subsumption and meets as sets -/
theorem code_mem {h : HierD} {t : Int} (g0 : 0 ≤ t) (g1 : t < (h.1.length : Int)) : codeT h t ∈ h.1.map fun t => t.2.1 :=
 List.mem_map.2 ⟨_, mem_of_take_succ h.1 t0D (k := t.toNat) (by omega), rfl⟩
theorem subP_iff {a b : List Int} (ha : Wds a) (hb : Wds b) : subPF a b = true ↔ ∀ i, bitN a i = true → bitN b i = true := by
 constructor
 ·intro h i hi
  by_cases hk : i / 64 < a.length
  ·have h1 := List.all_eq_true.1 h (i / 64) (List.mem_range.2 hk)
   rw [beq_iff_eq, wordF_nat] at h1
   exact andNot_bits (getD_U64 ha _) (getD_U64 hb _) h1 (Nat.mod_lt _ (by decide)) hi
  ·exfalso
   unfold bitN at hi
   rw [getD_out hk] at hi
   simp at hi
 ·intro h
  unfold subPF
  rw [List.all_eq_true]
  intro k _
  rw [beq_iff_eq, wordF_nat]
  exact bits_word ha hb h k
theorem andP_bit {a b : List Int} (ha : Wds a) (hb : Wds b) (i : Nat) : bitN (andPF a b) i = (bitN a i && bitN b i) := by
 unfold andPF
 rw [bit_normal]
 unfold bitN
 have : (fillX (andW a b) (min a.length b.length) (min a.length b.length)).getD (i / 64) 0 = bitsV .and .u64 (a.getD (i / 64) 0) (b.getD (i / 64) 0) := by
  by_cases h : i / 64 < min a.length b.length
  ·unfold fillX
   rw [List.getD_eq_getElem?_getD, List.getElem?_map, List.getElem?_range h]
   show (if i / 64 < min a.length b.length then andW a b (i / 64) else 0) = _
   rw [if_pos h]
   rfl
  ·rw [getD_out (by rw [fillX_len]; exact h), and_bits (getD_U64 ha _) (getD_U64 hb _)]
   by_cases h1 : i / 64 < a.length
   ·rw [getD_out (b := b) (by omega)]
    simp
   ·rw [getD_out (b := a) h1]
    simp
 rw [this, and_bits (getD_U64 ha _) (getD_U64 hb _), Int.toNat_natCast, Nat.testBit_and]
theorem andP_wds {a b : List Int} (ha : Wds a) (hb : Wds b) : Wds (andPF a b) := by
 refine normal_wds fun x hx => ?_
 unfold fillX at hx
 obtain ⟨j, -, rfl⟩ := List.mem_map.1 hx
 split
 ·unfold andW
  rw [and_bits (getD_U64 ha _) (getD_U64 hb _)]
  have h1 := getD_U64 ha j
  have h2 : (a.getD j 0).toNat &&& (b.getD j 0).toNat ≤ (a.getD j 0).toNat := Nat.and_le_left
  have h3 := h1.1
  have h4 := h1.2
  exact ⟨Int.natCast_nonneg _, by omega⟩
 ·exact ⟨by decide, by decide⟩
theorem meetI_spec (c : List Int) : ∀ (l : List TypeD) (k : Nat), (meetI c k l = -1 ∧ ∀ t ∈ l, equalPF t.2.1 c = false) ∨ ((k : Int) ≤ meetI c k l ∧ meetI c k l < (k : Int) + l.length ∧ equalPF (l.getD ((meetI c k l).toNat - k) t0D).2.1 c = true)
 | [], k => .inl ⟨rfl, fun t ht => by cases ht⟩
 | x :: l, k => by
  simp only [meetI]
  split
  ·rename_i h
   right
   refine ⟨by omega, by simp only [List.length_cons]; omega, ?_⟩
   rw [show ((k : Int).toNat - k) = 0 by omega]
   exact h
  ·rename_i h
   have h : equalPF x.2.1 c = false := by simpa using h
   rcases meetI_spec c l (k + 1) with ⟨h1, h2⟩ | ⟨h1, h2, h3⟩
   ·left
    refine ⟨h1, fun t ht => ?_⟩
    rcases List.mem_cons.1 ht with rfl | ht
    ·exact h
    ·exact h2 t ht
   ·right
    refine ⟨by omega, by simp only [List.length_cons]; omega, ?_⟩
    rw [show ((meetI c (k + 1) l).toNat - k) = ((meetI c (k + 1) l).toNat - (k + 1)) + 1 by omega]
    exact h3
def Tb2 (h : HierD) (t : Int) (i : Nat) : Bool := bitN (codeT h t) i
theorem hsub_iff {h : HierD} (hk : HOk h) {a b : Int} (a0 : 0 ≤ a) (a1 : a < (h.1.length : Int)) (b0 : 0 ≤ b) (b1 : b < (h.1.length : Int)) : hsubF h a b = true ↔ ∀ i, Tb2 h b i = true → Tb2 h a i = true :=
 subP_iff (hk.1.wds _ (code_mem b0 b1)) (hk.1.wds _ (code_mem a0 a1))
theorem meet_set {h : HierD} (hk : HOk h) {a b : Int} (a0 : 0 ≤ a) (a1 : a < (h.1.length : Int)) (b0 : 0 ≤ b) (b1 : b < (h.1.length : Int)) :
  ((meetF h a b).2 = true → 0 ≤ (meetF h a b).1 ∧ (meetF h a b).1 < (h.1.length : Int) ∧ ∀ i, Tb2 h (meetF h a b).1 i = (Tb2 h a i && Tb2 h b i)) ∧ ((∃ i, Tb2 h a i = true ∧ Tb2 h b i = true) → (meetF h a b).2 = true) := by
 have wa := hk.1.wds _ (code_mem a0 a1)
 have wb := hk.1.wds _ (code_mem b0 b1)
 have hbit := andP_bit wa wb
 have hwc := andP_wds wa wb
 have heq : ∀ t ∈ h.1, equalPF t.2.1 (andPF (codeT h a) (codeT h b)) = true ↔ ∀ i, bitN t.2.1 i = bitN (andPF (codeT h a) (codeT h b)) i := by
  intro t ht
  have wt := hk.1.wds t.2.1 (List.mem_map.2 ⟨t, ht, rfl⟩)
  unfold equalPF
  rw [Bool.and_eq_true, subP_iff wt hwc, subP_iff hwc wt]
  constructor
  ·rintro ⟨e1, e2⟩ i
   rw [Bool.eq_iff_iff]
   exact ⟨e1 i, e2 i⟩
  ·intro e
   exact ⟨fun i hi => by rw [← e i]; exact hi, fun i hi => by rw [e i]; exact hi⟩
 unfold meetF
 by_cases hz : (andPF (codeT h a) (codeT h b)).length = 0
 ·rw [if_pos hz]
  refine ⟨fun e => (by cases e), ?_⟩
  rintro ⟨i, i1, i2⟩
  exfalso
  have := hbit i
  rw [List.eq_nil_of_length_eq_zero hz] at this
  unfold Tb2 at i1 i2
  rw [i1, i2] at this
  unfold bitN at this
  simp at this
 ·rw [if_neg hz]
  rcases meetI_spec (andPF (codeT h a) (codeT h b)) h.1 0 with ⟨h1, h2⟩ | ⟨h1, h2, h3⟩
  ·rw [if_pos (by omega)]
   refine ⟨fun e => (by cases e), fun hi => ?_⟩
   exfalso
   obtain ⟨t, ht, e⟩ := hk.1.meet _ (code_mem a0 a1) _ (code_mem b0 b1) hi
   obtain ⟨x, hx, rfl⟩ := List.mem_map.1 ht
   have := (heq x hx).2 (fun i => by rw [hbit i]; exact e i)
   rw [h2 x hx] at this
   cases this
  ·have h1 : 0 ≤ meetI (andPF (codeT h a) (codeT h b)) 0 h.1 := by omega
   rw [if_neg (by omega)]
   refine ⟨fun _ => ⟨h1, by simp only; omega, fun i => ?_⟩, fun _ => rfl⟩
   rw [Nat.sub_zero] at h3
   have hm := mem_of_take_succ h.1 t0D (k := (meetI (andPF (codeT h a) (codeT h b)) 0 h.1).toNat) (by omega)
   have := (heq _ hm).1 h3 i
   rw [hbit i] at this
   exact this
theorem meet_law {h : HierD} (hk : HOk h) {a b : Int} (a0 : 0 ≤ a) (a1 : a < (h.1.length : Int)) (b0 : 0 ≤ b) (b1 : b < (h.1.length : Int)) :
  ((meetF h a b).2 = true → 0 ≤ (meetF h a b).1 ∧ (meetF h a b).1 < (h.1.length : Int) ∧ hsubF h a (meetF h a b).1 = true ∧ hsubF h b (meetF h a b).1 = true) ∧
  ∀ x, 0 ≤ x → x < (h.1.length : Int) → hsubF h a x = true → hsubF h b x = true → (meetF h a b).2 = true ∧ hsubF h (meetF h a b).1 x = true := by
 obtain ⟨m1, m2⟩ := meet_set hk a0 a1 b0 b1
 refine ⟨fun e => ?_, fun x x0 x1 hax hbx => ?_⟩
 ·obtain ⟨q0, q1, q2⟩ := m1 e
  refine ⟨q0, q1, (hsub_iff hk a0 a1 q0 q1).2 fun i hi => ?_, (hsub_iff hk b0 b1 q0 q1).2 fun i hi => ?_⟩
  ·rw [q2 i, Bool.and_eq_true] at hi; exact hi.1
  ·rw [q2 i, Bool.and_eq_true] at hi; exact hi.2
 ·have ga := (hsub_iff hk a0 a1 x0 x1).1 hax
  have gb := (hsub_iff hk b0 b1 x0 x1).1 hbx
  obtain ⟨i, hi⟩ := hk.1.some _ (code_mem x0 x1)
  have e := m2 ⟨i, ga i hi, gb i hi⟩
  obtain ⟨q0, q1, q2⟩ := m1 e
  refine ⟨e, (hsub_iff hk q0 q1 x0 x1).2 fun j hj => ?_⟩
  rw [q2 j, Bool.and_eq_true]
  exact ⟨ga j hj, gb j hj⟩
end
/- Functions of grammarlabref07. -/
section
abbrev NodeL := Int × List (Int × Int)
def lightF (f : List NodeL) : Bool := decide (f.length ≤ 12) && f.all fun n => decide (n.2.length ≤ 12)
def lightS : Spec := { ins := [T25], pre := fun _ => True, out := fun (f, _) => [.p .bool (lightF f)] }
theorem light_ok : FnOk Tryz.prog 54 lightS := by
 refine fn_ok Tryz.func54 (by kernel_rfl) rfl Tryz.ntmps54 (by decide) (by kernel_rfl) (tyTab_ok []) (fun f sp h => by simp [lk] at h) ?_
 rintro w0 O0 ⟨l, u⟩ hc hok hpre
 simp only [lightS, entEnv]
 repeat' (first | exact trivial | refine eS rfl ?_ | refine ev_out_inv ?_ | refine rX [0, 1, 2, 3, 7, 12, 22] hc ?_ ?_ | (refine rC (fun hcond => ?_) (fun hcond => ?_) <;> try (cases hcond; done)))
 ·have h1 : lightF l = false := by
   have h : ¬ (List.length l ≤ 12) := by exact eV
   unfold lightF
   rw [decide_eq_false h]; rfl
  exact ev_fin hc [.tmp 2] rfl (.inl rfl) (by simp) (by rw [h1]; first | exact eR | refine eRM ?_)
 ·refine ev_loop (ι := {k : Nat // k ≤ l.length ∧ (l.take k).all (fun n => decide (n.2.length ≤ 12)) = true}) (fun k => ⟨[(0, .p T25 l), (1, .bp 1 [] 0), (3, .p (.int .i64) (k.1 : Int))], [(1, .box 25 true [.p T23 l])]⟩) (fun k => l.length - k.1) ⟨0, by simp⟩ (ent_match [(1, .nm 1)] rfl rfl ?_ ?_) (fun k => ?_)
  ·first | exact eN | refine eM ?_
  ·first | exact eN | refine eM ?_
  ·obtain ⟨k, hk, hall⟩ := k
   repeat' (first | exact trivial | refine eS rfl ?_ | refine ev_out_inv ?_ | refine rX [0, 1, 2, 3, 7, 12, 22] hc ?_ ?_ | (refine rC (fun hcond => ?_) (fun hcond => ?_) <;> try (cases hcond; done)))
   ·exact eV
   ·have h1 : lightF l = false := by
     have hk : k < l.length := by exact eV
     have h := mem_of_take_succ l (0, []) hk
     unfold lightF
     rw [Bool.and_eq_false_iff]
     right
     rw [List.all_eq_false]
     exact ⟨_, h, by simp only [decide_eq_true_eq]; exact eV⟩
    exact ev_fin hc [.tmp 2] rfl (.inl rfl) (by simp) (by rw [h1]; first | exact eR | refine eRM ?_)
   ·exact eV
   ·have hk : k < l.length := by exact eV
    refine ⟨⟨k + 1, by exact eV, ?_⟩, by simp only; exact eV, ent_match [(1, .nm 1)] rfl rfl ?_ ?_⟩
    ·have h1 := take_snoc l (0, []) hk
     have h2 : ((l.take (k + 1)).all fun n => decide (n.2.length ≤ 12)) = _ := congrArg (fun x => List.all x fun n => decide (n.2.length ≤ 12)) h1
     rw [h2, List.all_append, hall]
     simp only [List.all_cons, List.all_nil, Bool.and_true, Bool.true_and, decide_eq_true_eq]
     exact eV
    ·first | exact eN | refine eM ?_
    ·first | exact eN | refine eM ?_
   ·have h1 : lightF l = true := by
     have hk : l.take k = l := List.take_of_length_le (by exact eV)
     rw [hk] at hall
     unfold lightF
     rw [hall, decide_eq_true (by exact eV)]; rfl
    exact ev_fin hc [.tmp 2] rfl (.inl rfl) (by simp) (by rw [h1]; first | exact eR | refine eRM ?_)
end
/- Functions of grammarlabref07: arcs. -/
section
def arcsG (n : Int) (seen : List (Int × Int)) : List (Int × Int) → Int
 | [] => 0
 | x :: r => if x.1 < 0 ∨ x.2 < 0 ∨ n ≤ x.2 then 2 else if (seen.any fun y => y.1 == x.1) = true then 4 else arcsG n (seen ++ [x]) r
def arcsF (l : List (Int × Int)) (n : Int) : Int := arcsG n [] l
def arcsS : Spec := { ins := [T86, T3], pre := fun _ => True, out := fun (l, n, _) => [.p T79 (arcsF l n)] }
theorem arcsG_step (n : Int) (l : List (Int × Int)) {k : Nat} (h : k < l.length) : arcsG n (l.take k) (l.drop k) = if (l.getD k (0, 0)).1 < 0 ∨ (l.getD k (0, 0)).2 < 0 ∨ n ≤ (l.getD k (0, 0)).2 then 2 else if ((l.take k).any fun y => y.1 == (l.getD k (0, 0)).1) = true then 4 else arcsG n (l.take (k + 1)) (l.drop (k + 1)) := by
 rw [take_snoc l (0, 0) h, List.drop_eq_getElem_cons h, List.getD_eq_getElem?_getD, List.getElem?_eq_getElem h]
 rfl
theorem any_take_succ (l : List (Int × Int)) (f : Int) {k : Nat} (h : k < l.length) : ((l.take (k + 1)).any fun y => y.1 == f) = ((l.take k).any (fun y => y.1 == f) || ((l.getD k (0, 0)).1 == f)) := by
 rw [take_snoc l (0, 0) h, List.any_append]; simp
theorem arcs_ok : FnOk Tryz.prog 146 arcsS := by
 refine fn_ok Tryz.func146 (by kernel_rfl) rfl Tryz.ntmps146 (by decide) (by kernel_rfl) (tyTab_ok []) (fun f sp h => by simp [lk] at h) ?_
 rintro w0 O0 ⟨l, n, u⟩ hc ⟨⟨hl, -⟩, -⟩ -
 simp only [maxN] at hl
 simp only [arcsS, entEnv]
 repeat' (first | exact trivial | refine eS rfl ?_ | refine ev_out_inv ?_ | refine rX [0, 1, 4, 5, 6, 10, 35, 38, 51] hc ?_ ?_ | (refine rC (fun hcond => ?_) (fun hcond => ?_) <;> try (cases hcond; done)))
 refine ev_loop (ι := {k : Nat // k ≤ l.length ∧ arcsG n (l.take k) (l.drop k) = arcsF l n}) (fun k => ⟨[(0, .p T86 l), (1, .p T3 n), (5, .p (.int .i64) (k.1 : Int))], []⟩) (fun k => l.length - k.1) ⟨0, by simp [arcsF]⟩ (ent_match [] rfl rfl ?_ ?_) (fun k => ?_)
 ·first | exact eN | refine eM ?_
 ·first | exact eN | refine eM ?_
 ·obtain ⟨k, hk, hall⟩ := k
  repeat' (first | exact trivial | refine eS rfl ?_ | refine ev_out_inv ?_ | refine rX [0, 1, 4, 5, 6, 10, 35, 38, 51] hc ?_ ?_ | (refine rC (fun hcond => ?_) (fun hcond => ?_) <;> try (cases hcond; done)))
  ·exact eV
  ·have hk : k < l.length := by exact eV
   have h1 : arcsF l n = 2 := by
    rw [← hall, arcsG_step n l hk, if_pos (by rw [← or_assoc]; exact hcond)]
   exact ev_fin hc [.tmp 4] rfl (.inl rfl) (by simp) (by rw [h1]; first | exact eR | refine eRM ?_)
  ·have hk : k < l.length := by exact eV
   have hn : ¬ ((l.getD k (0, 0)).1 < 0 ∨ (l.getD k (0, 0)).2 < 0 ∨ n ≤ (l.getD k (0, 0)).2) := by
    have := hcond
    generalize l.getD k (0, 0) = x at this
    exact eV
   rw [arcsG_step n l hk, if_neg hn] at hall
   refine ev_loop (ι := {j : Nat // j ≤ k ∧ ((l.take j).any fun y => y.1 == (l.getD k (0, 0)).1) = false}) (fun j => ⟨[(0, .p T86 l), (1, .p T3 n), (5, .p (.int .i64) (k : Int)), (6, .p (.int .i64) (j.1 : Int))], []⟩) (fun j => k - j.1) ⟨0, by simp⟩ (ent_match [] rfl rfl ?_ ?_) (fun j => ?_)
   ·first | exact eN | refine eM ?_
   ·first | exact eN | refine eM ?_
   ·obtain ⟨j, hj, hany⟩ := j
    repeat' (first | exact trivial | refine eS rfl ?_ | refine ev_out_inv ?_ | refine rX [0, 1, 4, 5, 6, 10, 35, 38, 51] hc ?_ ?_ | (refine rC (fun hcond => ?_) (fun hcond => ?_) <;> try (cases hcond; done)))
    ·exact eV
    ·have hjl : j < l.length := by exact eV
     have h1 : arcsF l n = 4 := by
      have h2 : ((l.take k).any fun y => y.1 == (l.getD k (0, 0)).1) = true := by
       rw [List.any_eq_true]
       refine ⟨l.getD j (0, 0), ?_, by simpa using hcond⟩
       rw [List.getD_eq_getElem?_getD, List.getElem?_eq_getElem hjl]
       exact List.mem_take_iff_getElem.2 ⟨j, by exact eV, rfl⟩
      rw [← hall, if_pos h2]
     exact ev_fin hc [.tmp 4] rfl (.inl rfl) (by simp) (by rw [h1]; first | exact eR | refine eRM ?_)
    ·exact eV
    ·have hjl : j < l.length := by exact eV
     refine ⟨⟨j + 1, by exact eV, ?_⟩, by simp only; exact eV, ent_match [] rfl rfl ?_ ?_⟩
     ·have h2 := any_take_succ l (l.getD k (0, 0)).1 hjl
      refine h2.trans ?_
      rw [hany]
      simpa using hcond
     ·first | exact eN | refine eM ?_
     ·first | exact eN | refine eM ?_
    ·exact eV
    ·have hjk : j = k := by exact eV
     subst hjk
     refine ⟨⟨j + 1, by exact eV, ?_⟩, by simp only; exact eV, ent_match [] rfl rfl ?_ ?_⟩
     ·rw [← hall, if_neg (by rw [hany]; simp)]
     ·first | exact eN | refine eM ?_
     ·first | exact eN | refine eM ?_
  ·have h1 : arcsF l n = 0 := by
    have hk : l.length ≤ k := by exact eV
    rw [← hall, List.drop_eq_nil_of_le hk]; rfl
   exact ev_fin hc [.tmp 4] rfl (.inl rfl) (by simp) (by rw [h1]; first | exact eR | refine eRM ?_)
end
/- Functions of grammarlabref07: numbers. -/
section
def numN (n : Int × List (Int × Int)) : List Int := n.1 :: (n.2.length : Int) :: n.2.flatMap fun a => [a.1, a.2]
def numbersF (f : List (Int × List (Int × Int))) : List Int := (f.length : Int) :: f.flatMap numN
def numP (l : List (Int × List (Int × Int))) (k : Nat) : List Int := (l.length : Int) :: (l.take k).flatMap numN
def numQ (l : List (Int × List (Int × Int))) (k j : Nat) : List Int := numP l k ++ [(l.getD k (0, [])).1, ((l.getD k (0, [])).2.length : Int)] ++ ((l.getD k (0, [])).2.take j).flatMap fun a => [a.1, a.2]
theorem pairs_len : ∀ l : List (Int × Int), (l.flatMap fun a => [a.1, a.2]).length = 2 * l.length
 | [] => rfl
 | x :: l => by simp [pairs_len l]; omega
theorem numN_len (n : Int × List (Int × Int)) : (numN n).length = 2 + 2 * n.2.length := by
 have := pairs_len n.2
 simp only [numN, List.length_cons]; omega
theorem flat_len : ∀ l : List (Int × List (Int × Int)), (∀ n ∈ l, n.2.length ≤ 100000) → (l.flatMap numN).length ≤ l.length * 200002
 | [], _ => by simp
 | x :: l, h => by
  have h1 := h x (by simp)
  have h2 := flat_len l (fun n hn => h n (by simp [hn]))
  have h3 := numN_len x
  simp only [List.flatMap_cons, List.length_append, List.length_cons]
  omega
theorem numP_len {l : List (Int × List (Int × Int))} (h : ∀ n ∈ l, n.2.length ≤ 100000) {k : Nat} (hk : k ≤ l.length) : (numP l k).length ≤ 1 + k * 200002 := by
 have h1 := flat_len (l.take k) (fun n hn => h n (List.mem_of_mem_take hn))
 rw [List.length_take, Nat.min_eq_left hk] at h1
 simp only [numP, List.length_cons]
 omega
theorem numQ_len {l : List (Int × List (Int × Int))} (h : ∀ n ∈ l, n.2.length ≤ 100000) {k j : Nat} (hk : k < l.length) (hj : j ≤ (l.getD k (0, [])).2.length) : (numQ l k j).length ≤ 3 + k * 200002 + 2 * j := by
 have h1 := numP_len h (Nat.le_of_lt hk)
 have h2 := pairs_len ((l.getD k (0, [])).2.take j)
 rw [List.length_take, Nat.min_eq_left hj] at h2
 simp only [numQ, List.length_append, List.length_cons, List.length_nil]
 omega
theorem numP_succ {l : List (Int × List (Int × Int))} {k : Nat} (hk : k < l.length) : numP l (k + 1) = numQ l k (l.getD k (0, [])).2.length := by
 unfold numP numQ
 rw [take_snoc l (0, []) hk, List.flatMap_append, List.take_length]
 simp [numN, numP]
theorem numQ_succ {l : List (Int × List (Int × Int))} {k j : Nat} (hj : j < (l.getD k (0, [])).2.length) : numQ l k (j + 1) = numQ l k j ++ [((l.getD k (0, [])).2.getD j (0, 0)).1, ((l.getD k (0, [])).2.getD j (0, 0)).2] := by
 unfold numQ
 rw [take_snoc _ (0, 0) hj, List.flatMap_append]
 simp
def numbersS : Spec := { ins := [T25], pre := fun (f, _) => f.length ≤ 100000 ∧ ∀ n ∈ f, n.2.length ≤ 100000, out := fun (f, _) => [.p T40 (numbersF f)] }
theorem numbers_ok : FnOk Tryz.prog 108 numbersS := by
 refine fn_ok Tryz.func108 (by kernel_rfl) rfl Tryz.ntmps108 (by decide) (by kernel_rfl) (tyTab_ok []) fns_nil ?_
 rintro w0 O0 ⟨l, u⟩ hc ⟨hl, -⟩ ⟨hp1, hp2⟩
 simp only [numbersS, entEnv]
 repeat' (first | exact trivial | refine eS rfl ?_ | refine ev_out_inv ?_ | refine rX [0, 1, 2, 3, 4, 5, 6, 15, 38] hc ?_ ?_ | (refine rC (fun hcond => ?_) (fun hcond => ?_) <;> try (cases hcond; done)))
 refine ev_loop (ι := {k : Nat // k ≤ l.length}) (fun k => ⟨[(0, .p T25 l), (1, .bp 1 [] 0), (3, .sr 10 T3 0 (numP l k.1).length), (4, .p (.int .i64) (k.1 : Int))], [(1, .box 25 true [.p T23 l]), (10, .arr 3 T3 (numP l k.1))]⟩) (fun k => l.length - k.1) ⟨0, by simp⟩ (ent_match [(1, .nm 1), (10, .nm 10)] rfl rfl ?_ ?_) (fun k => ?_)
 ·first | exact eN | refine eM ?_
  rfl
 ·first | exact eN | refine eM ?_
  rfl
 ·obtain ⟨k, hk⟩ := k
  have hn1 := numP_len hp2 hk
  repeat' (first | exact trivial | refine eS rfl ?_ | refine ev_out_inv ?_ | refine rX [0, 1, 2, 3, 4, 5, 6, 15, 38] hc ?_ ?_ | (refine rC (fun hcond => ?_) (fun hcond => ?_) <;> try (cases hcond; done)))
  ·exact eV
  ·refine ⟨by exact eV, ?_⟩
   simp only [maxN]; exact eV
  ·have hkl : k < l.length := by exact eV
   have hp3 := hp2 _ (mem_of_take_succ l (0, []) hkl)
   refine ev_loop (ι := {j : Nat // j ≤ (l.getD k (0, [])).2.length}) (fun j => ⟨[(0, .p T25 l), (1, .bp 1 [] 0), (3, .sr 10 T3 0 (numQ l k j.1).length), (4, .p (.int .i64) (k : Int)), (5, .p T86 (l.getD k (0, [])).2), (6, .p (.int .i64) (j.1 : Int))], [(1, .box 25 true [.p T23 l]), (10, .arr 3 T3 (numQ l k j.1))]⟩) (fun j => (l.getD k (0, [])).2.length - j.1) ⟨0, by simp⟩ (ent_match [(1, .nm 1), (10, .nm 10)] rfl rfl ?_ ?_) (fun j => ?_)
   ·first | exact eN | refine eM ?_
    simp [numQ]
   ·first | exact eN | refine eM ?_
    simp [numQ]
   ·obtain ⟨j, hj⟩ := j
    have hn2 := numQ_len hp2 hkl hj
    repeat' (first | exact trivial | refine eS rfl ?_ | refine ev_out_inv ?_ | refine rX [0, 1, 2, 3, 4, 5, 6, 15, 38] hc ?_ ?_ | (refine rC (fun hcond => ?_) (fun hcond => ?_) <;> try (cases hcond; done)))
    ·refine ⟨by exact eV, by exact eV, ?_⟩
     simp only [maxN]; exact eV
    ·exact eV
    ·have hjl : j < (l.getD k (0, [])).2.length := by exact eV
     refine ⟨⟨j + 1, by exact eV⟩, by simp only; exact eV, ent_match [(1, .nm 1), (10, .nm 10)] rfl rfl ?_ ?_⟩
     ·first | exact eN | refine eM ?_
      exact (numQ_succ hjl).symm
     ·first | exact eN | refine eM ?_
      have := congrArg List.length (numQ_succ (l := l) hjl)
      rw [List.length_append] at this
      exact this.symm
    ·exact eV
    ·have hjk : j = (l.getD k (0, [])).2.length := by exact eV
     subst hjk
     refine ⟨⟨k + 1, by exact eV⟩, by simp only; exact eV, ent_match [(1, .nm 1), (10, .nm 10)] rfl rfl ?_ ?_⟩
     ·first | exact eN | refine eM ?_
      exact (numP_succ hkl).symm
     ·first | exact eN | refine eM ?_
      exact congrArg List.length (numP_succ hkl).symm
  ·have hk : l.take k = l := List.take_of_length_le (by exact eV)
   have h1 : numP l k = numbersF l := by unfold numP numbersF; rw [hk]
   exact ev_fin hc [.tmp 2] rfl (.inl rfl) (by simp) (by first | exact eR | refine eRM ?_; exact h1)
end
/- Functions of grammarlabref07: Compare, Equal. -/
section
attribute [local go_sem] numbersS
def cmpL : List Int → List Int → Int
 | x :: xs, y :: ys => if x < y then -1 else if y < x then 1 else cmpL xs ys
 | _, _ => 0
theorem cmpL_step (xs ys : List Int) {k : Nat} (h1 : k < xs.length) (h2 : k < ys.length) : cmpL (xs.drop k) (ys.drop k) = if xs.getD k 0 < ys.getD k 0 then -1 else if ys.getD k 0 < xs.getD k 0 then 1 else cmpL (xs.drop (k + 1)) (ys.drop (k + 1)) := by
 rw [List.drop_eq_getElem_cons h1, List.drop_eq_getElem_cons h2, List.getD_eq_getElem?_getD, List.getElem?_eq_getElem h1, List.getD_eq_getElem?_getD, List.getElem?_eq_getElem h2]
 rfl
theorem cmpL_end (xs ys : List Int) {k : Nat} (h : xs.length ≤ k ∨ ys.length ≤ k) : cmpL (xs.drop k) (ys.drop k) = 0 := by
 rcases h with h | h
 ·rw [List.drop_eq_nil_of_le h]; simp [cmpL]
 ·rw [List.drop_eq_nil_of_le h]; simp [cmpL]
def compareF (a b : List (Int × List (Int × Int))) : Int := cmpL (numbersF a) (numbersF b)
def SmallF (f : List (Int × List (Int × Int))) : Prop := f.length ≤ 100000 ∧ ∀ n ∈ f, n.2.length ≤ 100000
def compareS : Spec := { ins := [T25, T25], pre := fun (a, b, _) => SmallF a ∧ SmallF b, out := fun (a, b, _) => [.p T3 (compareF a b)] }
theorem numbersF_len {f : List (Int × List (Int × Int))} (h : SmallF f) : (numbersF f).length ≤ 1 + f.length * 200002 := by
 have := flat_len f h.2
 simp only [numbersF, List.length_cons]; omega
theorem compare_ok : FnOk Tryz.prog 69 compareS := by
 refine fn_ok Tryz.func69 (by kernel_rfl) rfl Tryz.ntmps69 (by decide) (by kernel_rfl) (tyTab_ok [(108, numbersS)]) (fns_cons numbers_ok fns_nil) ?_
 rintro w0 O0 ⟨a, b, u⟩ hc - ⟨⟨ha1, ha2⟩, ⟨hb1, hb2⟩⟩
 have hla := numbersF_len ⟨ha1, ha2⟩
 have hlb := numbersF_len ⟨hb1, hb2⟩
 simp only [compareS, entEnv]
 repeat' (first | exact trivial | refine eS rfl ?_ | refine ev_out_inv ?_ | refine rX [0, 1, 2, 3, 4, 5, 6, 7, 21, 32, 41] hc ?_ ?_ | (refine rC (fun hcond => ?_) (fun hcond => ?_) <;> try (cases hcond; done)))
 ·exact ⟨ha1, ha2⟩
 ·exact ⟨hb1, hb2⟩
 ·refine ev_loop (ι := {k : Nat // cmpL ((numbersF a).drop k) ((numbersF b).drop k) = compareF a b}) (fun k => ⟨[(5, .p T40 (numbersF a)), (6, .p T40 (numbersF b)), (7, .p (.int .i64) (k.1 : Int))], []⟩) (fun k => (numbersF a).length - k.1) ⟨0, by simp [compareF]⟩ (ent_match [] rfl rfl ?_ ?_) (fun k => ?_)
  ·first | exact eN | refine eM ?_
  ·first | exact eN | refine eM ?_
  ·obtain ⟨k, hk⟩ := k
   repeat' (first | exact trivial | refine eS rfl ?_ | refine ev_out_inv ?_ | refine rX [0, 1, 2, 3, 4, 5, 6, 7, 21, 32, 41] hc ?_ ?_ | (refine rC (fun hcond => ?_) (fun hcond => ?_) <;> try (cases hcond; done)))
   ·exact eV
   ·obtain ⟨h1, h2⟩ : k < (numbersF a).length ∧ k < (numbersF b).length := by exact eV
    have h3 : compareF a b = -1 := by rw [← hk, cmpL_step _ _ h1 h2, if_pos hcond]
    exact ev_fin hc [.tmp 4] rfl (.inl rfl) (by simp) (by rw [h3]; first | exact eR | refine eRM ?_)
   ·exact eV
   ·obtain ⟨h1, h2⟩ : k < (numbersF a).length ∧ k < (numbersF b).length := by exact eV
    have h3 : compareF a b = 1 := by rw [← hk, cmpL_step _ _ h1 h2, if_neg (by exact eV), if_pos hcond]
    exact ev_fin hc [.tmp 4] rfl (.inl rfl) (by simp) (by rw [h3]; first | exact eR | refine eRM ?_)
   ·exact eV
   ·obtain ⟨h1, h2⟩ : k < (numbersF a).length ∧ k < (numbersF b).length := by exact eV
    refine ⟨⟨k + 1, ?_⟩, by simp only; exact eV, ent_match [] rfl rfl ?_ ?_⟩
    ·rw [← hk, cmpL_step _ _ h1 h2, if_neg (by exact eV), if_neg (by exact eV)]
    ·first | exact eN | refine eM ?_
    ·first | exact eN | refine eM ?_
   ·have h3 : compareF a b = 0 := by
     rw [← hk]
     apply cmpL_end
     by_cases h : k < (numbersF a).length
     ·right; have := hcond (by exact eV); exact eV
     ·left; exact eV
    exact ev_fin hc [.tmp 4] rfl (.inl rfl) (by simp) (by rw [h3]; first | exact eR | refine eRM ?_)
def equalS : Spec := { ins := [T25, T25], pre := fun (a, b, _) => SmallF a ∧ SmallF b, out := fun (a, b, _) => [.p .bool (compareF a b == 0)] }
end
/- Functions of grammarlabref07: Equal, form. -/
section
attribute [local go_sem] compareS arcsS
theorem equal_ok : FnOk Tryz.prog 20 equalS := by
 refine fn_ok Tryz.func20 (by kernel_rfl) rfl Tryz.ntmps20 (by decide) (by kernel_rfl) (tyTab_ok [(69, compareS)]) (fns_cons compare_ok fns_nil) ?_
 rintro w0 O0 ⟨a, b, u⟩ hc - hpre
 simp only [equalS, entEnv]
 repeat' (first | exact trivial | refine eS rfl ?_ | refine ev_out_inv ?_ | refine rX [0, 1, 2, 3, 4] hc ?_ ?_ | (refine rC (fun hcond => ?_) (fun hcond => ?_) <;> try (cases hcond; done)))
 ·exact hpre
 ·exact ev_fin hc [.tmp 4] rfl (.inl rfl) (by simp) (by first | exact eR | refine eRM ?_)
def formG (m : Int) : List (Int × List (Int × Int)) → Int
 | [] => 0
 | n :: r => if n.1 < 0 then 2 else if arcsF n.2 m ≠ 0 then arcsF n.2 m else formG m r
def formF (f : List (Int × List (Int × Int))) : Int := if f.length = 0 then 1 else if 4096 < f.length then 7 else formG f.length f
def formS : Spec := { ins := [T25], pre := fun _ => True, out := fun (f, _) => [.p T79 (formF f)] }
theorem formG_step (m : Int) (l : List (Int × List (Int × Int))) {k : Nat} (h : k < l.length) : formG m (l.drop k) = if (l.getD k (0, [])).1 < 0 then 2 else if arcsF (l.getD k (0, [])).2 m ≠ 0 then arcsF (l.getD k (0, [])).2 m else formG m (l.drop (k + 1)) := by
 rw [List.drop_eq_getElem_cons h, List.getD_eq_getElem?_getD, List.getElem?_eq_getElem h]
 rfl
theorem form_ok : FnOk Tryz.prog 110 formS := by
 refine fn_ok Tryz.func110 (by kernel_rfl) rfl Tryz.ntmps110 (by decide) (by kernel_rfl) (tyTab_ok [(146, arcsS)]) (fns_cons arcs_ok fns_nil) ?_
 rintro w0 O0 ⟨l, u⟩ hc ⟨hl, -⟩ -
 simp only [formS, entEnv]
 repeat' (first | exact trivial | refine eS rfl ?_ | refine ev_out_inv ?_ | refine rX [0, 1, 2, 3, 4, 8, 12, 17, 26, 38] hc ?_ ?_ | (refine rC (fun hcond => ?_) (fun hcond => ?_) <;> try (cases hcond; done)))
 ·have h1 : formF l = 1 := by
   have h : l.length = 0 := by exact eV
   unfold formF
   rw [if_pos h]
  exact ev_fin hc [.tmp 2] rfl (.inl rfl) (by simp) (by rw [h1]; first | exact eR | refine eRM ?_)
 ·have h1 : formF l = 7 := by
   have h : ¬ l.length = 0 := by exact eV
   have h' : 4096 < l.length := by exact eV
   unfold formF
   rw [if_neg h, if_pos h']
  exact ev_fin hc [.tmp 2] rfl (.inl rfl) (by simp) (by rw [h1]; first | exact eR | refine eRM ?_)
 ·have h1 : formF l = formG l.length l := by
   have h : ¬ l.length = 0 := by exact eV
   have h' : ¬ 4096 < l.length := by exact eV
   unfold formF
   rw [if_neg h, if_neg h']
  refine ev_loop (ι := {k : Nat // k ≤ l.length ∧ formG l.length (l.drop k) = formF l}) (fun k => ⟨[(1, .bp 1 [] 0), (3, .p (.int .i64) (k.1 : Int))], [(1, .box 25 true [.p T23 l])]⟩) (fun k => l.length - k.1) ⟨0, by simp [h1]⟩ (ent_match [(1, .nm 1)] rfl rfl ?_ ?_) (fun k => ?_)
  ·first | exact eN | refine eM ?_
  ·first | exact eN | refine eM ?_
  ·obtain ⟨k, hk, hf⟩ := k
   repeat' (first | exact trivial | refine eS rfl ?_ | refine ev_out_inv ?_ | refine rX [0, 1, 2, 3, 4, 8, 12, 17, 26, 38] hc ?_ ?_ | (refine rC (fun hcond => ?_) (fun hcond => ?_) <;> try (cases hcond; done)))
   ·exact eV
   ·have hkl : k < l.length := by exact eV
    have h2 : formF l = 2 := by rw [← hf, formG_step _ _ hkl, if_pos hcond]
    exact ev_fin hc [.tmp 2] rfl (.inl rfl) (by simp) (by rw [h2]; first | exact eR | refine eRM ?_)
   ·exact eV
   ·have hkl : k < l.length := by exact eV
    have h2 : formF l = arcsF (l.getD k (0, [])).2 l.length := by rw [← hf, formG_step _ _ hkl, if_neg (by exact eV), if_pos hcond]
    exact ev_fin hc [.tmp 2] rfl (.inl rfl) (by simp) (by rw [h2]; first | exact eR | refine eRM ?_)
   ·exact eV
   ·have hkl : k < l.length := by exact eV
    refine ⟨⟨k + 1, by exact eV, ?_⟩, by simp only; exact eV, ent_match [(1, .nm 1)] rfl rfl ?_ ?_⟩
    ·rw [← hf, formG_step _ _ hkl, if_neg (by exact eV), if_neg (by simpa using hcond)]
    ·first | exact eN | refine eM ?_
    ·first | exact eN | refine eM ?_
   ·have h2 : formF l = 0 := by
     have hk : l.length ≤ k := by exact eV
     rw [← hf, List.drop_eq_nil_of_le hk]; rfl
    exact ev_fin hc [.tmp 2] rfl (.inl rfl) (by simp) (by rw [h2]; first | exact eR | refine eRM ?_)
end
/- The contract of functions of the program: Sorted. -/
section
def posF (x : Int × Int) (s : List (Int × Int)) : Nat → Nat
 | 0 => 0
 | n + 1 => if x.1 < (s.getD n (0, 0)).1 then posF x s n else n + 1
def insF (s : List (Int × Int)) (x : Int × Int) : List (Int × Int) := s.take (posF x s s.length) ++ [x] ++ s.drop (posF x s s.length)
def sortedF (l : List (Int × Int)) : List (Int × Int) := l.foldl insF []
theorem posF_le (x : Int × Int) (s : List (Int × Int)) : ∀ n, posF x s n ≤ n
 | 0 => Nat.le_refl _
 | n + 1 => by
  unfold posF
  have := posF_le x s n
  split <;> omega
theorem insF_len (s : List (Int × Int)) (x : Int × Int) : (insF s x).length = s.length + 1 := by
 have := posF_le x s s.length
 simp [insF]; omega
theorem sortedF_snoc (l : List (Int × Int)) (x : Int × Int) : sortedF (l ++ [x]) = insF (sortedF l) x := by simp [sortedF]
theorem foldl_insF_len : ∀ (l s : List (Int × Int)), (l.foldl insF s).length = s.length + l.length
 | [], s => by simp
 | x :: l, s => by simp [foldl_insF_len l, insF_len]; omega
theorem sortedF_len (l : List (Int × Int)) : (sortedF l).length = l.length := by simp [sortedF, foldl_insF_len]
def sortedS : Spec := { ins := [T86], pre := fun (l, _) => l.length ≤ 1000000, out := fun (l, _) => [.own 108 T108 (sortedF l)] }
theorem sorted_ok : FnOk Tryz.prog 145 sortedS := by
 refine fn_ok Tryz.func145 (by kernel_rfl) rfl Tryz.ntmps145 (by decide) (by kernel_rfl) (tyTab_ok []) fns_nil ?_
 rintro w0 O0 ⟨l, u⟩ hc hok hpre
 simp only [sortedS] at hpre
 simp only [sortedS, entEnv]
 repeat' (first | exact trivial | refine eS rfl ?_ | refine ev_out_inv ?_ | refine rX [0, 2, 3, 4, 5, 6, 10, 30] hc ?_ ?_ | (refine rC (fun hcond => ?_) (fun hcond => ?_) <;> try (cases hcond; done)))
 refine ev_loop (ι := {p : Nat // p ≤ l.length}) (fun k => ⟨[(0, .p T86 l), (3, .sr 10 T108 0 (sortedF (l.take k.1)).length), (4, .p (.int .i64) (k.1 : Int))], [(10, .arr 108 T108 (sortedF (l.take k.1)))]⟩) (fun k => l.length - k.1) ⟨0, by omega⟩ (ent_match [(10, .nil)] rfl rfl ?_ ?_) (fun k => ?_)
 ·first | exact eN | refine eM ?_
  rfl
 ·first | exact eN | refine eM ?_
  rfl
 ·obtain ⟨k, hI⟩ := k
  have hlen : (sortedF (l.take k)).length = k := by rw [sortedF_len, List.length_take]; exact Nat.min_eq_left hI
  repeat' (first | exact trivial | refine eS rfl ?_ | refine ev_out_inv ?_ | refine rX [0, 2, 3, 4, 5, 6, 10, 30] hc ?_ ?_ | (refine rC (fun hcond => ?_) (fun hcond => ?_) <;> try (cases hcond; done)))
  ·refine ev_loop (ι := {q : Nat // q ≤ (sortedF (l.take k)).length ∧ posF (l.getD k (0,0)) (sortedF (l.take k)) q = posF (l.getD k (0,0)) (sortedF (l.take k)) (sortedF (l.take k)).length}) (fun q => ⟨[(0, .p T86 l), (3, .sr 10 T108 0 (sortedF (l.take k)).length), (4, .p (.int .i64) (k : Int)), (5, .p (.int .i64) (q.1 : Int))], [(10, .arr 108 T108 (sortedF (l.take k)))]⟩) (fun q => q.1) ⟨(sortedF (l.take k)).length, by simp⟩ (ent_match [(10, .nm 10)] rfl rfl ?_ ?_) (fun q => ?_)
   ·first | exact eN | refine eM ?_
   ·first | exact eN | refine eM ?_
   ·obtain ⟨q, hq, hp⟩ := q
    have hkl : k < l.length := by omega
    have e1 := l.length_take_le k
    have e2 : (List.take q (sortedF (List.take k l))).length = q := by rw [List.length_take]; exact Nat.min_eq_left hq
    repeat' (first | exact trivial | refine eS rfl ?_ | refine ev_out_inv ?_ | refine rX [0, 2, 3, 4, 5, 6, 10, 30] hc ?_ ?_ | (refine rC (fun hcond => ?_) (fun hcond => ?_) <;> try (cases hcond; done)))
    ·exact eV
    ·exact eV
    ·obtain ⟨h1, h2⟩ := hcond
     obtain ⟨q, rfl⟩ : ∃ r, q = r + 1 := ⟨q - 1, by omega⟩
     have h3 : ((q + 1 : Nat) : Int) - 1 = (q : Int) := by omega
     refine ⟨⟨q, by omega, ?_⟩, Nat.lt_succ_self q, ent_match [(10, .nm 10)] rfl rfl ?_ ?_⟩
     ·rw [← hp]
      simp only [posF]
      rw [h3, Int.toNat_natCast] at h2
      rw [if_pos h2]
     ·first | exact eN | refine eM ?_
     ·first | exact eN | refine eM ?_
      show (q : Int) + 1 - 1 = q
      omega
    ·refine ⟨by exact eV, ?_⟩
     rw [e2]; unfold maxN; omega
    ·refine ⟨by exact eV, ?_⟩
     rw [e2]; simp only [maxN]; omega
    ·refine ⟨by exact eV, ?_⟩
     rw [e2]; simp only [maxN, List.length_drop]; omega
    ·exact eV
    ·have hpos : posF (l.getD k (0, 0)) (sortedF (l.take k)) q = q := by
      cases q with
      | zero => rfl
      | succ q =>
       have h3 : ((q + 1 : Nat) : Int) - 1 = (q : Int) := by omega
       have := hcond (by omega)
       rw [h3, Int.toNat_natCast] at this
       simp only [posF]
       rw [if_neg (by omega)]
     have h1 := take_snoc l (0, 0) hkl
     have h2 : sortedF (l.take (k + 1)) = _ := (congrArg sortedF h1).trans (sortedF_snoc _ _)
     unfold insF at h2
     rw [← hp, hpos] at h2
     refine ⟨⟨k + 1, by exact eV⟩, by simp only; exact eV, ent_match [(10, .nm 37)] rfl rfl ?_ ?_⟩
     ·first | exact eN | refine eM ?_
      exact h2.symm
     ·first | exact eN | refine eM ?_
      have h4 := congrArg List.length h2
      rw [List.length_append, List.length_append] at h4
      exact h4.symm
  ·have hk : l.take k = l := List.take_of_length_le (by exact eV)
   refine ev_fin_own hc (.inl rfl) (rv := .tmp 2) rfl ?_
   simp only [resIs, resV, ownOf, go_sem, Nat.reduceEqDiff, reduceCtorEq, Nat.reduceAdd, Nat.reduceSub, Nat.reduceMul, Nat.reduceLeDiff, Nat.reduceLT, Int.reduceLE, Int.reduceToNat, Int.reduceNeg, ↓reduceIte]
   rw [hk]
   first | rfl | exact ⟨rfl, rfl⟩ | exact ⟨rfl, rfl, rfl⟩
end
/- Functions of grammarlabref07: visit. -/
section
attribute [local go_sem] sortedS
abbrev GNode := Int × List (Int × Int)
def visitF (f : List GNode) : Nat → List Int × List Int → Int → List Int × List Int
 | 0, s, _ => s
 | k + 1, s, n => (sortedF (f.getD n.toNat (0, [])).2).foldl (fun s a => if s.1.getD a.2.toNat 0 < 0 then visitF f k s a.2 else s) (s.1.set n.toNat (s.2.length : Int), s.2 ++ [n])
def negC (l : List Int) : Nat := l.countP (fun x => decide (x < 0))
def GoodF (f : List GNode) : Prop := f.length ≤ 100000 ∧ ∀ x ∈ f, x.2.length ≤ 100000 ∧ ∀ a ∈ x.2, 0 ≤ a.2 ∧ a.2 < (f.length : Int)
def TrOk (f : List GNode) (s : List Int × List Int) : Prop := s.1.length = f.length ∧ s.2.length + negC s.1 ≤ f.length
theorem negC_set {l : List Int} {n : Nat} {v : Int} (hn : n < l.length) (hneg : l.getD n 0 < 0) (hv : 0 ≤ v) : negC (l.set n v) + 1 = negC l := by
 induction l generalizing n with
 | nil => simp at hn
 | cons x r ih =>
  cases n with
  | zero =>
   have hx : x < 0 := by simpa using hneg
   have : ¬ v < 0 := by omega
   simp [negC, List.countP_cons, hx, this]
  | succ n =>
   have h1 := ih (n := n) (by simpa using hn) (by simpa using hneg)
   simp only [negC, List.set_cons_succ, List.countP_cons] at h1 ⊢
   omega
theorem tr_set {f : List GNode} {s : List Int × List Int} {n : Int} (h : TrOk f s) (hn0 : 0 ≤ n) (hn : n < f.length) (hneg : s.1.getD n.toNat 0 < 0) :
  TrOk f (s.1.set n.toNat (s.2.length : Int), s.2 ++ [n]) ∧ negC (s.1.set n.toNat (s.2.length : Int)) + 1 = negC s.1 := by
 obtain ⟨h1, h2⟩ := h
 have h3 := negC_set (l := s.1) (n := n.toNat) (v := (s.2.length : Int)) (by omega) hneg (by omega)
 refine ⟨⟨by simpa using h1, ?_⟩, h3⟩
 simp only [List.length_append, List.length_singleton]
 omega
theorem insF_perm (s : List (Int × Int)) (x : Int × Int) : (insF s x).Perm (x :: s) := by
 unfold insF
 refine (List.perm_append_comm.append_right _).trans ?_
 simp
theorem foldl_insF_perm : ∀ (l s : List (Int × Int)), (l.foldl insF s).Perm (l ++ s)
 | [], s => List.Perm.refl _
 | x :: l, s => by
  refine (foldl_insF_perm l (insF s x)).trans ?_
  refine (List.Perm.append_left l (insF_perm s x)).trans ?_
  exact List.perm_middle
theorem sortedF_perm (l : List (Int × Int)) : (sortedF l).Perm l := by
 have := foldl_insF_perm l []
 simpa [sortedF] using this
theorem arcs_len {f : List GNode} (hf : GoodF f) (n : Int) : List.length (f.getD n.toNat (0, [])).2 ≤ 100000 := by
 by_cases h : n.toNat < f.length
 ·have hm : f.getD n.toNat (0, []) ∈ f := by
   rw [List.getD_eq_getElem?_getD, List.getElem?_eq_getElem h]; exact List.getElem_mem h
  exact (hf.2 _ hm).1
 ·rw [List.getD_eq_getElem?_getD, List.getElem?_eq_none (by omega)]
  simp
theorem arcs_of {f : List GNode} (hf : GoodF f) {n : Int} {a : Int × Int} (ha : a ∈ sortedF (f.getD n.toNat (0, [])).2) : 0 ≤ a.2 ∧ a.2 < f.length := by
 have ha := (sortedF_perm _).mem_iff.1 ha
 by_cases h : n.toNat < f.length
 ·have hm : f.getD n.toNat (0, []) ∈ f := by
   rw [List.getD_eq_getElem?_getD, List.getElem?_eq_getElem h]; exact List.getElem_mem h
  exact (hf.2 _ hm).2 a ha
 ·rw [List.getD_eq_getElem?_getD, List.getElem?_eq_none (by omega)] at ha
  simp at ha
def stepV (f : List GNode) (k : Nat) (s : List Int × List Int) (a : Int × Int) : List Int × List Int := if s.1.getD a.2.toNat 0 < 0 then visitF f k s a.2 else s
theorem visitF_succ (f : List GNode) (k : Nat) (s : List Int × List Int) (n : Int) : visitF f (k + 1) s n = (sortedF (f.getD n.toNat (0, [])).2).foldl (stepV f k) (s.1.set n.toNat (s.2.length : Int), s.2 ++ [n]) := rfl
theorem fold_ok {f : List GNode} {k : Nat} (hv : ∀ (s : List Int × List Int) (n : Int), TrOk f s → 0 ≤ n → n < f.length → s.1.getD n.toNat 0 < 0 → TrOk f (visitF f k s n) ∧ negC (visitF f k s n).1 ≤ negC s.1) :
  ∀ (l : List (Int × Int)) (t : List Int × List Int), (∀ a ∈ l, 0 ≤ a.2 ∧ a.2 < (f.length : Int)) → TrOk f t → TrOk f (l.foldl (stepV f k) t) ∧ negC (l.foldl (stepV f k) t).1 ≤ negC t.1
 | [], t, _, ht => ⟨ht, Nat.le_refl _⟩
 | a :: l, t, hl, ht => by
  simp only [List.foldl_cons]
  by_cases hc : t.1.getD a.2.toNat 0 < 0
  ·obtain ⟨g1, g2⟩ := hv t a.2 ht (hl a (by simp)).1 (hl a (by simp)).2 hc
   have e : stepV f k t a = visitF f k t a.2 := if_pos hc
   rw [e]
   obtain ⟨g3, g4⟩ := fold_ok hv l _ (fun b hb => hl b (by simp [hb])) g1
   exact ⟨g3, Nat.le_trans g4 g2⟩
  ·have e : stepV f k t a = t := if_neg hc
   rw [e]
   exact fold_ok hv l t (fun b hb => hl b (by simp [hb])) ht
theorem visitF_ok {f : List GNode} (hf : GoodF f) : ∀ (k : Nat) (s : List Int × List Int) (n : Int), TrOk f s → 0 ≤ n → n < f.length → s.1.getD n.toNat 0 < 0 → TrOk f (visitF f k s n) ∧ negC (visitF f k s n).1 ≤ negC s.1
 | 0, s, n, h, _, _, _ => ⟨h, Nat.le_refl _⟩
 | k + 1, s, n, h, h0, h1, h2 => by
  obtain ⟨h3, h4⟩ := tr_set h h0 h1 h2
  obtain ⟨g1, g2⟩ := fold_ok (visitF_ok hf k) _ _ (fun a ha => arcs_of hf ha) h3
  rw [visitF_succ]
  exact ⟨g1, by simp only at g2 h4; omega⟩
theorem fold_take {α β : Type} (g : β → α → β) (l : List α) (d : α) (t : β) {i : Nat} (hi : i < l.length) : (l.take (i + 1)).foldl g t = g ((l.take i).foldl g t) (l.getD i d) := by
 rw [take_snoc l d hi, List.foldl_append]; rfl
def wObjs (f : List GNode) (s : List Int × List Int) : List (Nat × Obj) := [(1, .box 205 true [.p T25 f, .sr 2 T3 0 s.1.length, .sr 3 T3 0 s.2.length]), (2, .arr 3 T3 s.1), (3, .arr 3 T3 s.2)]
theorem visit_ok (f : List GNode) (hf : GoodF f) : ∀ (k : Nat) (s : List Int × List Int) (n : Int), TrOk f s → 0 ≤ n → n < f.length → s.1.getD n.toNat 0 < 0 → negC s.1 ≤ k →
  CallM Tryz.prog 144 [.bp 1 [] 0, .p T3 n] (wObjs f s) [1] (fun res objs' => res = .raw (.tuple #[]) ∧ objs' = wObjs f (visitF f k s n)) := by
 intro k
 induction k with
 | zero =>
  intro s n h0 h1 h2 h3 h4
  obtain ⟨_, h5⟩ := tr_set h0 h1 h2 h3
  omega
 | succ k ih =>
  intro s n htr hn0 hn1 hneg hk
  obtain ⟨num, ord⟩ := s
  obtain ⟨htr', hcnt⟩ := tr_set htr hn0 hn1 hneg
  obtain ⟨hl1, hl2⟩ := htr
  simp only at hl1 hl2 hneg htr' hcnt hk
  refine fnM_ok Tryz.func144 (by kernel_rfl) rfl Tryz.ntmps144 (by simp only [List.length_cons, List.length_nil]; omega) (by kernel_rfl) rfl rfl (tyTab_ok [(145, sortedS)]) (fns_cons sorted_ok fns_nil) ?_
  intro w0 K O0 ρ0 hc hok1 hok2
  simp only [wObjs, argEnv]
  repeat' (first | exact trivial | refine eS rfl ?_ | refine ev_out_inv ?_ | refine rX [0, 1, 4, 5, 40, 54] hc ?_ ?_ | (refine rC (fun hcond => ?_) (fun hcond => ?_) <;> try (cases hcond; done)))
  ·exact eV
  ·have := hf.1
   simp only [maxN]; omega
  ·have hm := arcs_len hf n
   exact ⟨⟨hn0, hn1⟩, Nat.le_trans hm (by omega)⟩
  ·have harcs := fun a (ha : a ∈ sortedF (f.getD n.toNat (0, [])).2) => arcs_of hf ha
   have hLlen : (sortedF (f.getD n.toNat (0, [])).2).length ≤ 100000 := by rw [sortedF_len]; exact arcs_len hf n
   generalize hL : sortedF (f.getD n.toNat (0, [])).2 = L at harcs hLlen
   generalize hs1 : (num.set n.toNat (ord.length : Int), ord ++ [n]) = s1 at htr'
   have hfold : ∀ i, TrOk f ((L.take i).foldl (stepV f k) s1) ∧ negC ((L.take i).foldl (stepV f k) s1).1 ≤ negC s1.1 := fun i => fold_ok (visitF_ok hf k) _ _ (fun a ha => harcs a (List.mem_of_mem_take ha)) htr'
   have hn1 : num.set n.toNat (ord.length : Int) = s1.1 := by rw [← hs1]
   have ho1 : ord ++ [n] = s1.2 := by rw [← hs1]
   rw [hn1] at hcnt
   refine ev_loop (ι := {i : Nat // i ≤ L.length}) (fun i => ⟨[(0, .bp 1 [] 0), (1, .p T3 n), (4, .p T86 L), (5, .p (.int .i64) (i.1 : Int))], wObjs f ((L.take i.1).foldl (stepV f k) s1)⟩) (fun i => L.length - i.1) ⟨0, by omega⟩ (frzT [36] (ent_match [(1, .nm 1), (2, .nm 2), (3, .nm 3)] rfl rfl ?_ ?_)) (fun i => ?_)
   ·simp only [wObjs]
    first | exact eN | refine eM ?_
    simp only [List.foldl_nil]
    rw [← hs1]
    simp
   ·first | exact eN | refine eM ?_
   ·obtain ⟨i, hi⟩ := i
    obtain ⟨hti, hci⟩ := hfold i
    have hnext := fun (h : i < L.length) => fold_take (stepV f k) L (0, 0) s1 h
    generalize hsi : (L.take i).foldl (stepV f k) s1 = si at hti hci hnext
    simp only [wObjs]
    repeat' (first | exact trivial | refine eS rfl ?_ | refine ev_out_inv ?_ | refine rX [0, 1, 4, 5, 40, 54] hc ?_ ?_ | (refine rC (fun hcond => ?_) (fun hcond => ?_) <;> try (cases hcond; done)))
    ·have hiL : i < L.length := by exact eV
     have := harcs _ (mem_of_take_succ L (0, 0) hiL)
     obtain ⟨h1, h2⟩ := hti
     refine ⟨by exact eV, this.1, ?_⟩
     rw [h1]
     exact this.2
    ·have hiL : i < L.length := by exact eV
     have hr := harcs _ (mem_of_take_succ L (0, 0) hiL)
     refine cP 6 hc ?_ ?_
     ·exact eV
     ·refine rM hc (ih si (L.getD i (0, 0)).2 hti hr.1 hr.2 (by simpa using hcond) (by omega)) [(1, .nm 1), (2, .nm 2), (3, .nm 3)] [2, 3] ?_ ?_ ?_
      ·first | exact eN | refine eM ?_
      ·simp only [wObjs]
       first | exact eN | refine eM ?_
      ·rintro _ _ ⟨rfl, rfl⟩
       refine ⟨[(1, .nm 1), (2, .nm 2), (3, .nm 3)], .raw (.tuple #[]), wObjs f (visitF f k si (L.getD i (0, 0)).2), rfl, rfl, ?_, ?_, rfl, rfl, evL_end ?_⟩
       ·simp only [wObjs]
        first | exact eN | refine eM ?_
       ·first | exact eN | refine eM ?_
       ·repeat' (first | exact trivial | refine eS rfl ?_ | refine ev_out_inv ?_ | refine rX [0, 1, 4, 5, 40, 54] hc ?_ ?_ | (refine rC (fun hcond => ?_) (fun hcond => ?_) <;> try (cases hcond; done)))
        ·exact eV
        ·have e : stepV f k si (L.getD i (0, 0)) = visitF f k si (L.getD i (0, 0)).2 := if_pos (by simpa using hcond)
         refine ⟨⟨i + 1, by omega⟩, by simp only; omega, ent_match [(1, .nm 1), (2, .nm 2), (3, .nm 3)] rfl rfl ?_ ?_⟩
         ·simp only [wObjs, hnext hiL, e]
          first | exact eN | refine eM ?_
         ·first | exact eN | refine eM ?_
    ·exact eV
    ·have hiL : i < L.length := by exact eV
     have e : stepV f k si (L.getD i (0, 0)) = si := if_neg (by simpa using hcond)
     refine ⟨⟨i + 1, by omega⟩, by simp only; omega, ent_match [(1, .nm 1), (2, .nm 2), (3, .nm 3)] rfl rfl ?_ ?_⟩
     ·simp only [hnext hiL, e]
      first | exact eN | refine eM ?_
     ·first | exact eN | refine eM ?_
    ·have hk : L.take i = L := List.take_of_length_le (by exact eV)
     rw [hk] at hsi
     have h1 : visitF f (k + 1) (num, ord) n = si := by rw [visitF_succ, hL, ← hsi, ← hs1]
     rw [h1]
     exact ev_finM hc [] rfl (.inr rfl) (.raw (.tuple #[])) rfl ⟨rfl, rfl⟩
end
/- Functions of grammarlabref07: From. -/
section
attribute [local go_sem] sortedS
def OrdOk (f : List GNode) (s : List Int × List Int) : Prop := ∀ n ∈ s.2, 0 ≤ n ∧ n < (f.length : Int)
theorem visitF_ord {f : List GNode} (hf : GoodF f) : ∀ (k : Nat) (s : List Int × List Int) (n : Int), OrdOk f s → 0 ≤ n → n < f.length → OrdOk f (visitF f k s n)
 | 0, s, n, h, _, _ => h
 | k + 1, s, n, h, h0, h1 => by
  rw [visitF_succ]
  have key : ∀ (l : List (Int × Int)) (t : List Int × List Int), (∀ a ∈ l, 0 ≤ a.2 ∧ a.2 < (f.length : Int)) → OrdOk f t → OrdOk f (l.foldl (stepV f k) t) := by
   intro l
   induction l with
   | nil => intro t _ ht; exact ht
   | cons a l ih =>
    intro t hl ht
    simp only [List.foldl_cons]
    refine ih _ (fun b hb => hl b (by simp [hb])) ?_
    unfold stepV
    split
    ·exact visitF_ord hf k t a.2 ht (hl a (by simp)).1 (hl a (by simp)).2
    ·exact ht
  refine key _ _ (fun a ha => arcs_of hf ha) ?_
  intro m hm
  simp only [List.mem_append, List.mem_singleton] at hm
  rcases hm with hm | rfl
  ·exact h m hm
  ·exact ⟨h0, h1⟩
def travF (f : List GNode) (root : Int) : List Int × List Int := visitF f f.length (List.replicate f.length (-1), []) root
def renA (num : List Int) (a : Int × Int) : Int × Int := (a.1, num.getD a.2.toNat 0)
def nodeF (f : List GNode) (num : List Int) (n : Int) : GNode := ((f.getD n.toNat (0, [])).1, (sortedF (f.getD n.toNat (0, [])).2).map (renA num))
def fromF (f : List GNode) (root : Int) : List GNode := (travF f root).2.map (nodeF f (travF f root).1)
theorem negC_rep (m : Nat) : negC (List.replicate m (-1)) = m := by
 induction m with
 | zero => rfl
 | succ m ih => simp only [negC, List.replicate_succ, List.countP_cons] at ih ⊢; simp [ih]
theorem tr0 (f : List GNode) : TrOk f (List.replicate f.length (-1), []) := ⟨by simp, by simp [negC_rep]⟩
theorem rep_neg {f : List GNode} {n : Int} (h0 : 0 ≤ n) (h1 : n < f.length) : (List.replicate f.length (-1 : Int)).getD n.toNat 0 < 0 := by
 have : n.toNat < f.length := by omega
 simp [List.getD_eq_getElem?_getD, List.getElem?_replicate, this]
theorem trav_ok {f : List GNode} (hf : GoodF f) {n : Int} (h0 : 0 ≤ n) (h1 : n < f.length) : TrOk f (travF f n) ∧ OrdOk f (travF f n) :=
 ⟨(visitF_ok hf _ _ n (tr0 f) h0 h1 (rep_neg h0 h1)).1, visitF_ord hf _ _ n (fun m hm => by simp at hm) h0 h1⟩
theorem map_part {α β : Type} (g : α → β) (h : β → α) (L : List α) (d : α) {k : Nat} (hk : k < L.length) (u : α → α) : ((L.take k).map u ++ L.drop k).set k (u (L.getD k d)) = (L.take (k + 1)).map u ++ L.drop (k + 1) ∧ ((L.take k).map u ++ L.drop k).getD k d = L.getD k d := by
 have h1 : ((L.take k).map u).length = k := by simp; omega
 have h2 : L.drop k = L.getD k d :: L.drop (k + 1) := by
  rw [List.drop_eq_getElem_cons hk, List.getD_eq_getElem?_getD, List.getElem?_eq_getElem hk]; rfl
 constructor
 ·rw [take_snoc L d hk, List.set_append_right _ _ (by omega), h1, Nat.sub_self, h2]
  simp
 ·rw [List.getD_eq_getElem?_getD, List.getElem?_append_right (by omega), h1, Nat.sub_self, h2]; rfl
def fromS : Spec := { ins := [T25, T3], pre := fun (f, n, _) => GoodF f ∧ 0 ≤ n ∧ n < (List.length f : Int), out := fun (f, n, _) => [.p T25 (fromF f n)] }
theorem from_ok : FnOk Tryz.prog 107 fromS := by
 refine fn_ok Tryz.func107 (by kernel_rfl) rfl Tryz.ntmps107 (by decide) (by kernel_rfl) (tyTab_ok [(145, sortedS)]) (fns_cons sorted_ok fns_nil) ?_
 rintro w0 O0 ⟨f, root, u⟩ hc - ⟨hf, hr0, hr1⟩
 simp only [fromS, entEnv]
 have hfl := hf.1
 repeat' (first | exact trivial | refine eS rfl ?_ | refine ev_out_inv ?_ | refine rX [0, 1, 2, 4, 5, 6, 7, 8, 9, 10, 11, 19, 40, 60] hc ?_ ?_ | (refine rC (fun hcond => ?_) (fun hcond => ?_) <;> try (cases hcond; done)))
 refine ev_loop (ι := {i : Nat // i ≤ f.length}) (fun i => ⟨[(1, .p T3 root), (2, .bp 2 [] 0), (4, .bp 4 [] 0), (5, .bp 14 [] 0), (6, .p (.int .i64) (i.1 : Int))], [(2, .box 25 true [.p T23 f]), (4, .box 25 true [.raw (.slice none 0 0)]), (14, .box 205 true [.p T25 f, .sr 10 T3 0 i.1, .raw (.slice none 0 0)]), (10, .arr 3 T3 (List.replicate i.1 (-1)))]⟩) (fun i => f.length - i.1) ⟨0, by omega⟩ (ent_match [(2, .nm 2), (4, .nm 4), (14, .nm 14), (10, .nil)] rfl rfl ?_ ?_) (fun i => ?_)
 ·first | exact eN | refine eM ?_
  rfl
 ·first | exact eN | refine eM ?_
 ·obtain ⟨i, hi⟩ := i
  repeat' (first | exact trivial | refine eS rfl ?_ | refine ev_out_inv ?_ | refine rX [0, 1, 2, 4, 5, 6, 7, 8, 9, 10, 11, 19, 40, 60] hc ?_ ?_ | (refine rC (fun hcond => ?_) (fun hcond => ?_) <;> try (cases hcond; done)))
  ·simp only [maxN]; omega
  ·exact eV
  ·have hi : i < List.length f := by exact eV
   refine ⟨⟨i + 1, by omega⟩, by simp only; omega, ent_match [(2, .nm 2), (4, .nm 4), (14, .nm 14), (10, .nm 10)] rfl rfl ?_ ?_⟩
   ·first | exact eN | refine eM ?_
    rw [List.replicate_succ']
    simp
   ·first | exact eN | refine eM ?_
  ·have hif : i = List.length f := by exact eV
   subst hif
   have hvo := trav_ok hf hr0 hr1
   refine cP 2 hc ?_ ?_
   ·trivial
   ·refine rM hc (visit_ok f hf (List.length f) (List.replicate (List.length f) (-1), []) root (tr0 f) hr0 hr1 (rep_neg hr0 hr1) (by rw [negC_rep]; exact Nat.le_refl _)) [(1, .nm 14), (2, .nm 10), (3, .nil)] [10] ?_ ?_ ?_
    ·first | exact eN | refine eM ?_
    ·simp only [wObjs]
     first | exact eN | refine eM ?_
     simp
    ·rintro _ _ ⟨rfl, rfl⟩
     refine ⟨[(14, .nm 1), (101, .nm 2), (102, .nm 3)], .raw (.tuple #[]), [(14, .box 205 true [.p T25 f, .sr 101 T3 0 (travF f root).1.length, .sr 102 T3 0 (travF f root).2.length]), (101, .arr 3 T3 (travF f root).1), (102, .arr 3 T3 (travF f root).2)], rfl, rfl, ?_, ?_, rfl, rfl, evL_end ?_⟩
     ·simp only [wObjs, travF]
      first | exact eN | refine eM ?_
     ·first | exact eN | refine eM ?_
     ·have hfrom : fromF f root = (travF f root).2.map (nodeF f (travF f root).1) := rfl
      rw [hfrom]
      generalize travF f root = s at hvo
      obtain ⟨num, ord⟩ := s
      obtain ⟨⟨hn1, hn2⟩, hord⟩ := hvo
      simp only at hn1 hn2
      have hord : ∀ n ∈ ord, 0 ≤ n ∧ n < (List.length f : Int) := hord
      repeat' (first | exact trivial | refine eS rfl ?_ | refine ev_out_inv ?_ | refine rX [0, 1, 2, 4, 5, 6, 7, 8, 9, 10, 11, 19, 40, 60] hc ?_ ?_ | (refine rC (fun hcond => ?_) (fun hcond => ?_) <;> try (cases hcond; done)))
      refine ev_loop (ι := {i : Nat // i ≤ ord.length}) (fun i => ⟨[(2, .bp 2 [] 0), (4, .bp 4 [] 0), (5, .bp 14 [] 0), (7, .bp 7 [] 0), (8, .p (.int .i64) (i.1 : Int))], [(2, .box 25 true [.p T23 f]), (4, .box 25 true [.raw (.slice none 0 0)]), (14, .box 205 true [.p T25 f, .sr 101 T3 0 num.length, .sr 102 T3 0 ord.length]), (101, .arr 3 T3 num), (102, .arr 3 T3 ord), (7, .box 25 true [.sr 200 T88 0 i.1]), (200, .arr 88 T88 ((ord.take i.1).map (nodeF f num)))]⟩) (fun i => ord.length - i.1) ⟨0, by omega⟩ (ent_match [(2, .nm 2), (4, .nm 4), (14, .nm 14), (101, .nm 101), (102, .nm 102), (7, .nm 7), (200, .nil)] rfl rfl ?_ ?_) (fun i => ?_)
      ·first | exact eN | refine eM ?_
      ·first | exact eN | refine eM ?_
      ·obtain ⟨i, hi⟩ := i
       repeat' (first | exact trivial | refine eS rfl ?_ | refine ev_out_inv ?_ | refine rX [0, 1, 2, 4, 5, 6, 7, 8, 9, 10, 11, 19, 40, 60] hc ?_ ?_ | (refine rC (fun hcond => ?_) (fun hcond => ?_) <;> try (cases hcond; done)))
       ·have hi : i < ord.length := by exact eV
        exact ⟨by exact eV, hord _ (mem_of_take_succ ord 0 hi)⟩
       ·exact Nat.le_trans (arcs_len hf _) (by omega)
       ·have hi : i < ord.length := by exact eV
        have harcs := fun a (ha : a ∈ sortedF (f.getD (Int.toNat (ord.getD i 0)) (0, [])).2) => arcs_of hf ha
        have hnode : nodeF f num (ord.getD i 0) = ((f.getD (Int.toNat (ord.getD i 0)) (0, [])).1, (sortedF (f.getD (Int.toNat (ord.getD i 0)) (0, [])).2).map (renA num)) := rfl
        have hxl := arcs_len hf (ord.getD i 0)
        generalize List.getD f (Int.toNat (ord.getD i 0)) (0, []) = x at *
        obtain ⟨xt, xa⟩ := x
        simp only at harcs hnode hxl
        have hLl := sortedF_len xa
        generalize sortedF xa = L at *
        refine ev_loop (ι := {k : Nat // k ≤ L.length}) (fun k => ⟨[(2, .bp 2 [] 0), (4, .bp 4 [] 0), (5, .bp 14 [] 0), (7, .bp 7 [] 0), (8, .p (.int .i64) (i : Int)), (9, .bp 9 [] 0), (10, .sr 56 T108 0 L.length), (11, .p (.int .i64) (k.1 : Int))], [(56, .arr 108 T108 ((L.take k.1).map (renA num) ++ L.drop k.1)), (9, .box 88 true [.p T3 xt, .p T86 xa]), (2, .box 25 true [.p T23 f]), (4, .box 25 true [.raw (.slice none 0 0)]), (14, .box 205 true [.p T25 f, .sr 101 T3 0 num.length, .sr 102 T3 0 ord.length]), (101, .arr 3 T3 num), (102, .arr 3 T3 ord), (7, .box 25 true [.sr 200 T88 0 i]), (200, .arr 88 T88 ((ord.take i).map (nodeF f num)))]⟩) (fun k => L.length - k.1) ⟨0, by omega⟩ (ent_match [(2, .nm 2), (4, .nm 4), (14, .nm 14), (101, .nm 101), (102, .nm 102), (7, .nm 7), (200, .nm 200), (9, .nm 9), (56, .nm 56)] rfl rfl ?_ ?_) (fun k => ?_)
        ·first | exact eN | refine eM ?_
        ·first | exact eN | refine eM ?_
        ·obtain ⟨k, hk⟩ := k
         repeat' (first | exact trivial | refine eS rfl ?_ | refine ev_out_inv ?_ | refine rX [0, 1, 2, 4, 5, 6, 7, 8, 9, 10, 11, 19, 40, 60] hc ?_ ?_ | (refine rC (fun hcond => ?_) (fun hcond => ?_) <;> try (cases hcond; done)))
         ·have hkL : k < L.length := by exact eV
          have e := (map_part (renA num) (fun b => b) L (0, 0) hkL (renA num)).2
          rw [e]
          have := harcs _ (mem_of_take_succ L (0, 0) hkL)
          rw [hn1]
          exact ⟨by exact eV, this, by exact eV⟩
         ·exact eV
         ·have hkL : k < L.length := by exact eV
          have e := map_part (renA num) (fun b => b) L (0, 0) hkL (renA num)
          refine ⟨⟨k + 1, by omega⟩, by simp only; omega, ent_match [(2, .nm 2), (4, .nm 4), (14, .nm 14), (101, .nm 101), (102, .nm 102), (7, .nm 7), (200, .nm 200), (9, .nm 9), (56, .nm 56)] rfl rfl ?_ ?_⟩
          ·first | exact eN | refine eM ?_
           rw [e.2]
           exact e.1
          ·first | exact eN | refine eM ?_
         ·simp only [maxN]; have := hn2; omega
         ·exact eV
         ·have hkL : L.take k = L := List.take_of_length_le (by exact eV)
          have hdL : L.drop k = [] := List.drop_eq_nil_of_le (by exact eV)
          refine ⟨⟨i + 1, by omega⟩, by simp only; omega, ent_match [(2, .nm 2), (4, .nm 4), (14, .nm 14), (101, .nm 101), (102, .nm 102), (7, .nm 7), (200, .nm 200)] rfl rfl ?_ ?_⟩
          ·first | exact eN | refine eM ?_
           rw [hkL, hdL, List.append_nil, take_snoc ord 0 hi, List.map_append, List.map_cons, List.map_nil, hnode]
           have t1 : List.take i ((ord.take i).map (nodeF f num)) = (ord.take i).map (nodeF f num) := List.take_of_length_le (by rw [List.length_map, List.length_take]; omega)
           have t2 : List.take L.length (L.map (renA num)) = L.map (renA num) := List.take_of_length_le (by rw [List.length_map]; omega)
           rw [t1, t2]
          ·first | exact eN | refine eM ?_
       ·have hk : ord.take i = ord := List.take_of_length_le (by exact eV)
        rw [hk]
        refine ev_fin hc [.cell 4 25] rfl (.inl rfl) (by simp) (by first | exact eR | refine eRM ?_; exact List.take_of_length_le (by rw [List.length_map]; exact eV))
end
/- Functions of grammarlabref07: Canon, Sub; grammarlabref15: in, arc, canon. -/
section
attribute [local go_sem] formS fromS
theorem arcsG_zero {n : Int} : ∀ {l seen : List (Int × Int)}, arcsG n seen l = 0 → ∀ a ∈ l, 0 ≤ a.1 ∧ 0 ≤ a.2 ∧ a.2 < n
 | [], _, _, a, ha => by cases ha
 | x :: l, seen, h, a, ha => by
  simp only [arcsG] at h
  split at h
  ·cases h
  ·split at h
   ·cases h
   ·rename_i h1 _
    rcases List.mem_cons.1 ha with rfl | ha
    ·omega
    ·exact arcsG_zero h a ha
theorem formG_zero {m : Int} : ∀ {f : List (Int × List (Int × Int))}, formG m f = 0 → ∀ x ∈ f, 0 ≤ x.1 ∧ ∀ a ∈ x.2, 0 ≤ a.1 ∧ 0 ≤ a.2 ∧ a.2 < m
 | [], _, x, hx => by cases hx
 | y :: f, h, x, hx => by
  simp only [formG] at h
  split at h
  ·cases h
  ·split at h
   ·rename_i h1 h2; exact absurd h h2
   ·rename_i h1 h2
    have h2 : arcsF y.2 m = 0 := Classical.byContradiction h2
    rcases List.mem_cons.1 hx with rfl | hx
    ·exact ⟨by omega, arcsG_zero h2⟩
    ·exact formG_zero h x hx
def SmallA (f : List (Int × List (Int × Int))) : Prop := ∀ x ∈ f, x.2.length ≤ 100000
theorem formF_good {f : List (Int × List (Int × Int))} (h : formF f = 0) (hs : SmallA f) : GoodF f ∧ 0 < f.length := by
 unfold formF at h
 split at h
 ·cases h
 ·split at h
  ·cases h
  ·refine ⟨⟨by omega, fun x hx => ⟨hs x hx, fun a ha => ?_⟩⟩, by omega⟩
   have := (formG_zero h x hx).2 a ha
   exact ⟨this.2.1, this.2.2⟩
def canonF (f : List GNode) : List GNode × Int := if formF f = 0 then (fromF f 0, 0) else ([], formF f)
def canonS : Spec := { ins := [T25], pre := fun (f, _) => SmallA f, out := fun (f, _) => [.p T25 (canonF f).1, .p T79 (canonF f).2] }
theorem canon_ok : FnOk Tryz.prog 73 canonS := by
 refine fn_ok Tryz.func73 (by kernel_rfl) rfl Tryz.ntmps73 (by decide) (by kernel_rfl) (tyTab_ok [(110, formS), (107, fromS)]) (fns_cons form_ok (fns_cons from_ok fns_nil)) ?_
 rintro w0 O0 ⟨f, u⟩ hc - hs
 simp only [canonS, entEnv]
 repeat' (first | exact trivial | refine eS rfl ?_ | refine ev_out_inv ?_ | refine rX [0, 1, 2, 3, 4, 8] hc ?_ ?_ | (refine rC (fun hcond => ?_) (fun hcond => ?_) <;> try (cases hcond; done)))
 ·have h : ¬ formF f = 0 := by simpa using hcond
  have e : canonF f = ([], formF f) := if_neg h
  exact ev_fin hc [.cell 2 25, .tmp 3] rfl (.inl rfl) (by simp) (by rw [e]; first | exact eR | refine eRM ?_)
 ·have h : formF f = 0 := by simpa using hcond
  have := formF_good h hs
  exact ⟨this.1, by exact eV⟩
 ·have h : formF f = 0 := by simpa using hcond
  have e : canonF f = (fromF f 0, 0) := if_pos h
  exact ev_fin hc [.cell 2 25, .tmp 3] rfl (.inl rfl) (by simp) (by rw [e]; first | exact eR | refine eRM ?_)
end
/- Functions of grammarlabref15: LightPaths; grammarlabref07.Atom. -/
section
def lightPathsF (l : List (List Int)) : Bool := decide (l.length ≤ 20) && l.all fun p => decide (p.length ≤ 20)
def lightPathsS : Spec := { ins := [T45], pre := fun _ => True, out := fun (l, _) => [.p .bool (lightPathsF l)] }
theorem lightPaths_ok : FnOk Tryz.prog 27 lightPathsS := by
 refine fn_ok Tryz.func27 (by kernel_rfl) rfl Tryz.ntmps27 (by decide) (by kernel_rfl) (tyTab_ok []) fns_nil ?_
 rintro w0 O0 ⟨l, u⟩ hc ⟨⟨hl, -⟩, -⟩ -
 simp only [maxN] at hl
 simp only [lightPathsS, entEnv]
 repeat' (first | exact trivial | refine eS rfl ?_ | refine ev_out_inv ?_ | refine rX [0, 2, 3, 6, 10, 18] hc ?_ ?_ | (refine rC (fun hcond => ?_) (fun hcond => ?_) <;> try (cases hcond; done)))
 ·have h1 : lightPathsF l = false := by
   have h : ¬ l.length ≤ 20 := by exact eV
   unfold lightPathsF
   simp [h]
  exact ev_fin hc [.tmp 2] rfl (.inl rfl) (by simp) (by rw [h1]; first | exact eR | refine eRM ?_)
 ·have h20 : l.length ≤ 20 := by exact eV
  refine ev_loop (ι := {k : Nat // k ≤ l.length ∧ (l.take k).all (fun p => decide (p.length ≤ 20)) = true}) (fun k => ⟨[(0, .p T45 l), (3, .p (.int .i64) (k.1 : Int))], []⟩) (fun k => l.length - k.1) ⟨0, by simp⟩ (ent_match [] rfl rfl ?_ ?_) (fun k => ?_)
  ·first | exact eN | refine eM ?_
  ·first | exact eN | refine eM ?_
  ·obtain ⟨k, hk, hall⟩ := k
   repeat' (first | exact trivial | refine eS rfl ?_ | refine ev_out_inv ?_ | refine rX [0, 2, 3, 6, 10, 18] hc ?_ ?_ | (refine rC (fun hcond => ?_) (fun hcond => ?_) <;> try (cases hcond; done)))
   ·exact eV
   ·have hkl : k < l.length := by exact eV
    have h1 : lightPathsF l = false := by
     have hm := mem_of_take_succ l [] hkl
     have h : ¬ (l.getD k []).length ≤ 20 := by
      have : (20 : Int) < ((l.getD k []).length : Int) := hcond
      omega
     unfold lightPathsF
     rw [Bool.and_eq_false_iff]
     right
     rw [List.all_eq_false]
     exact ⟨_, hm, by simpa using h⟩
    exact ev_fin hc [.tmp 2] rfl (.inl rfl) (by simp) (by rw [h1]; first | exact eR | refine eRM ?_)
   ·exact eV
   ·have hkl : k < l.length := by exact eV
    refine ⟨⟨k + 1, by exact eV, ?_⟩, by simp only; exact eV, ent_match [] rfl rfl ?_ ?_⟩
    ·have h : (l.getD k []).length ≤ 20 := by
      have : ((l.getD k []).length : Int) ≤ 20 := hcond
      omega
     rw [take_snoc l [] hkl, List.all_append, hall]
     simpa using h
    ·first | exact eN | refine eM ?_
    ·first | exact eN | refine eM ?_
   ·have hk : l.take k = l := List.take_of_length_le (by exact eV)
    rw [hk] at hall
    have h1 : lightPathsF l = true := by unfold lightPathsF; rw [hall]; simp [h20]
    exact ev_fin hc [.tmp 2] rfl (.inl rfl) (by simp) (by rw [h1]; first | exact eR | refine eRM ?_)
def atomS : Spec := { ins := [T3], pre := fun _ => True, out := fun (t, _) => [.p T25 [(t, [])]] }
theorem atom_ok : FnOk Tryz.prog 59 atomS := by
 refine fn_ok Tryz.func59 (by kernel_rfl) rfl Tryz.ntmps59 (by decide) (by kernel_rfl) (tyTab_ok []) fns_nil ?_
 rintro w0 O0 ⟨t, u⟩ hc - -
 simp only [atomS, entEnv]
 repeat' (first | exact trivial | refine eS rfl ?_ | refine ev_out_inv ?_ | refine rX [0, 2] hc ?_ ?_ | (refine rC (fun hcond => ?_) (fun hcond => ?_) <;> try (cases hcond; done)))
 exact ev_fin hc [.cell 2 25] rfl (.inl rfl) (by simp) (by first | exact eR | refine eRM ?_)
end
/- Functions of grammarlabref15: Canonical. -/
section
attribute [local go_sem] lightS canonS equalS
def ftB (a : Int × Int) : Bool := decide (a.1 < 64)
def ndB (x : GNode) : Bool := decide (x.1 < 256) && x.2.all ftB
def canonicalB (f : List GNode) : Bool := lightF f && f.all ndB && ((canonF f).2 == 0 && (compareF (canonF f).1 f == 0))
theorem light_small {f : List GNode} (h : lightF f = true) : f.length ≤ 12 ∧ ∀ x ∈ f, x.2.length ≤ 12 := by
 unfold lightF at h
 simp only [Bool.and_eq_true, decide_eq_true_eq, List.all_eq_true] at h
 exact h
theorem small_from {f : List GNode} (hf : GoodF f) {n : Int} (h0 : 0 ≤ n) (h1 : n < f.length) : SmallF (fromF f n) := by
 obtain ⟨⟨g1, g2⟩, _⟩ := trav_ok hf h0 h1
 have hfl := hf.1
 refine ⟨?_, fun x hx => ?_⟩
 ·unfold fromF
  rw [List.length_map]
  omega
 ·obtain ⟨m, _, rfl⟩ := List.mem_map.1 hx
  unfold nodeF
  simp only [List.length_map, sortedF_len]
  exact arcs_len hf m
theorem small_canon {f : List GNode} (hs : SmallA f) : SmallF (canonF f).1 := by
 unfold canonF
 split
 ·rename_i h
  obtain ⟨h1, h2⟩ := formF_good h hs
  exact small_from h1 (by omega) (by omega)
 ·exact ⟨by simp, fun x hx => by cases hx⟩
end
/- Functions of Go's library under graph.canonical: isNaN, Compare, byFeature, the sort of what is sorted. -/
section
def isNaNS : Spec := { ins := [T3], pre := fun _ => True, out := fun _ => [.p .bool false] }
attribute [local go_sem] isNaNS
def cmpI (a b : Int) : Int := if a < b then -1 else if b < a then 1 else 0
def compareIntS : Spec := { ins := [T3, T3], pre := fun _ => True, out := fun (a, b, _) => [.p T3 (cmpI a b)] }
attribute [local go_sem] compareIntS
def byFeatureS : Spec := { ins := [T108, T108], pre := fun _ => True, out := fun (a, b, _) => [.p T3 (cmpI (Prod.fst a) (Prod.fst b))] }
attribute [local go_sem] byFeatureS
theorem isNaN_ok : FnOk Tryz.prog 122 isNaNS := by
 refine fn_ok Tryz.func122 (by kernel_rfl) rfl Tryz.ntmps122 (by decide) (by kernel_rfl) (tyTab_ok []) fns_nil ?_
 rintro w0 O0 ⟨x, u⟩ hc - -
 simp only [isNaNS, entEnv]
 repeat' (first | exact trivial | refine eS rfl ?_ | refine ev_out_inv ?_ | refine rX [0, 2] hc ?_ ?_ | (refine rC (fun hcond => ?_) (fun hcond => ?_) <;> try (cases hcond; done)))
 exact ev_fin hc [.tmp 2] rfl (.inl rfl) (by simp) (by first | exact eR | refine eRM ?_)
theorem compareInt_ok : FnOk Tryz.prog 86 compareIntS := by
 refine fn_ok Tryz.func86 (by kernel_rfl) rfl Tryz.ntmps86 (by decide) (by kernel_rfl) (tyTab_ok [(122, isNaNS)]) (fns_cons isNaN_ok fns_nil) ?_
 rintro w0 O0 ⟨a, b, u⟩ hc - -
 simp only [compareIntS, entEnv]
 repeat' (first | exact trivial | refine eS rfl ?_ | refine ev_out_inv ?_ | refine rX [0, 1, 4, 5, 6, 11, 12, 13, 16, 19] hc ?_ ?_ | (refine rC (fun hcond => ?_) (fun hcond => ?_) <;> try (cases hcond; done)))
 ·have e : cmpI a b = -1 := if_pos hcond
  exact ev_fin hc [.tmp 4] rfl (.inl rfl) (by simp) (by rw [e]; first | exact eR | refine eRM ?_)
 ·have e : cmpI a b = 1 := by unfold cmpI; rw [if_neg (by omega), if_pos hcond]
  exact ev_fin hc [.tmp 4] rfl (.inl rfl) (by simp) (by rw [e]; first | exact eR | refine eRM ?_)
 ·have e : cmpI a b = 0 := by unfold cmpI; rw [if_neg (by omega), if_neg (by omega)]
  exact ev_fin hc [.tmp 4] rfl (.inl rfl) (by simp) (by rw [e]; first | exact eR | refine eRM ?_)
theorem byFeature_ok : FnOk Tryz.prog 172 byFeatureS := by
 refine fn_ok Tryz.func172 (by kernel_rfl) rfl Tryz.ntmps172 (by decide) (by kernel_rfl) (tyTab_ok [(86, compareIntS)]) (fns_cons compareInt_ok fns_nil) ?_
 rintro w0 O0 ⟨a, b, u⟩ hc - -
 simp only [byFeatureS, entEnv]
 repeat' (first | exact trivial | refine eS rfl ?_ | refine ev_out_inv ?_ | refine rX [0, 1, 2, 3, 4] hc ?_ ?_ | (refine rC (fun hcond => ?_) (fun hcond => ?_) <;> try (cases hcond; done)))
 exact ev_fin hc [.tmp 4] rfl (.inl rfl) (by simp) (by first | exact eR | refine eRM ?_)
def SrtA (l : List (Int × Int)) : Prop := ∀ i, i + 1 < l.length → (l.getD i (0, 0)).1 < (l.getD (i + 1) (0, 0)).1
theorem insertion_ok (l : List (Int × Int)) (hl : l.length ≤ 100000) (hs : SrtA l) : CallM Tryz.prog 217 [.sr 1000000 T108 0 l.length, .p T3 (0 : Int), .p T3 (l.length : Int), .fn 172] [(1000000, .arr 108 T108 l)] [1000000] (fun res objs' => res = .raw (.tuple #[]) ∧ objs' = [(1000000, .arr 108 T108 l)]) := by
 refine fnM_ok Tryz.func217 (by kernel_rfl) rfl Tryz.ntmps217 (by simp only [List.length_cons, List.length_nil]; omega) (by kernel_rfl) rfl rfl (tyTab_ok [(172, byFeatureS)]) (fns_cons byFeature_ok fns_nil) ?_
 intro w0 K O0 ρ0 hc hok1 hok2
 simp only [argEnv]
 repeat' (first | exact trivial | refine eS rfl ?_ | refine ev_out_inv ?_ | refine rX [0, 1, 2, 3, 8, 9, 14, 34] hc ?_ ?_ | (refine rC (fun hcond => ?_) (fun hcond => ?_) <;> try (cases hcond; done)))
 ·omega
 ·refine ev_loop (ι := {i : Nat // 1 ≤ i ∧ (i = 1 ∨ i ≤ l.length)}) (fun i => ⟨[(0, .sr 1000000 T108 0 l.length), (1, .p T3 (0 : Int)), (2, .p T3 (l.length : Int)), (3, .fn 172), (8, .p (.int .i64) (i.1 : Int))], [(1000000, .arr 108 T108 l)]⟩) (fun i => l.length - i.1) ⟨1, by omega⟩ (ent_match [(1000000, .nm 1000000)] rfl rfl ?_ ?_) (fun i => ?_)
  ·first | exact eN | refine eM ?_
  ·first | exact eN | refine eM ?_
  ·obtain ⟨i, hi1, hi2⟩ := i
   repeat' (first | exact trivial | refine eS rfl ?_ | refine ev_out_inv ?_ | refine rX [0, 1, 2, 3, 8, 9, 14, 34] hc ?_ ?_ | (refine rC (fun hcond => ?_) (fun hcond => ?_) <;> try (cases hcond; done)))
   ·have hil : i < l.length := by exact eV
    refine ev_loop (ι := Unit) (fun j => ⟨[(0, .sr 1000000 T108 0 l.length), (1, .p T3 (0 : Int)), (2, .p T3 (l.length : Int)), (3, .fn 172), (8, .p (.int .i64) (i : Int)), (9, .p (.int .i64) (i : Int))], [(1000000, .arr 108 T108 l)]⟩) (fun j => 0) () (ent_match [(1000000, .nm 1000000)] rfl rfl ?_ ?_) (fun j => ?_)
    ·first | exact eN | refine eM ?_
    ·first | exact eN | refine eM ?_
    ·repeat' (first | exact trivial | refine eS rfl ?_ | refine ev_out_inv ?_ | refine rX [0, 1, 2, 3, 8, 9, 14, 34] hc ?_ ?_)
     ·dsimp only [Ty.den] at *
      refine ⟨fun _ => hcond, fun _ => ⟨by omega, by omega⟩, fun _ => ⟨by omega, by omega⟩⟩
     ·refine ev_condE (by simp only [go_sem, Nat.reduceEqDiff, reduceCtorEq, Nat.reduceAdd, Nat.reduceSub, Nat.reduceMul, Nat.reduceLeDiff, Nat.reduceLT, Int.reduceLE, Int.reduceToNat, Int.reduceNeg, ↓reduceIte]; rfl) ?_ ?_
      ·intro hc2
       exfalso
       simp only [Bool.and_eq_true, decide_eq_true_eq] at hc2
       have h2 := hc2.2
       have e : ((i : Int) - 1).toNat = i - 1 := by omega
       have h3 := hs (i - 1) (by omega)
       rw [show i - 1 + 1 = i by omega] at h3
       rw [e] at h2
       unfold cmpI at h2
       rw [if_neg (by omega), if_pos h3] at h2
       omega
      ·intro _
       repeat' (first | exact trivial | refine eS rfl ?_ | refine ev_out_inv ?_ | refine rX [0, 1, 2, 3, 8, 9, 14, 34] hc ?_ ?_ | (refine rC (fun hcond => ?_) (fun hcond => ?_) <;> try (cases hcond; done)))
       ·dsimp only [Ty.den] at *
        omega
       ·refine ⟨⟨i + 1, by omega, .inr (by omega)⟩, by simp only; omega, ent_match [(1000000, .nm 1000000)] rfl rfl ?_ ?_⟩
        ·first | exact eN | refine eM ?_
        ·first | exact eN | refine eM ?_
   ·exact ev_finM hc [] rfl (.inr rfl) (.raw (.tuple #[])) rfl ⟨rfl, rfl⟩
end
/- The plain law under graph.canonical: the program's search and the reference's are one, where each node's arcs ascend. -/
section
def dfs (f : List GNode) : Nat → List Int → Int → List Int
 | 0, o, _ => o
 | k + 1, o, n => (f.getD n.toNat (0, [])).2.foldl (fun o a => if a.2 ∈ o then o else dfs f k o a.2) (o ++ [n])
def stepD (f : List GNode) (k : Nat) (o : List Int) (a : Int × Int) : List Int := if a.2 ∈ o then o else dfs f k o a.2
theorem dfs_succ (f : List GNode) (k : Nat) (o : List Int) (n : Int) : dfs f (k + 1) o n = (f.getD n.toNat (0, [])).2.foldl (stepD f k) (o ++ [n]) := rfl
structure DOk (f : List GNode) (o : List Int) : Prop where
 nd : o.Nodup
 rng : ∀ x ∈ o, 0 ≤ x ∧ x < (f.length : Int)
theorem DOk.len {f : List GNode} {o : List Int} (h : DOk f o) : o.length ≤ f.length := by
 have h1 : (o.map Int.toNat).Nodup := by
  rw [List.Nodup, List.pairwise_map]
  refine h.nd.imp_of_mem fun {a b} ha hb hne e => hne ?_
  have := h.rng a ha
  have := h.rng b hb
  omega
 have := nodup_len f.length (o.map Int.toNat) h1 (fun j hj => by
  obtain ⟨x, hx, rfl⟩ := List.mem_map.1 hj
  have := h.rng x hx
  omega)
 simpa using this
theorem DOk.snoc {f : List GNode} {o : List Int} (h : DOk f o) {n : Int} (h0 : 0 ≤ n) (h1 : n < f.length) (hn : n ∉ o) : DOk f (o ++ [n]) := by
 refine ⟨?_, fun x hx => ?_⟩
 ·rw [List.nodup_append]
  refine ⟨h.nd, by simp, fun a ha b hb => ?_⟩
  have : b = n := by simpa using hb
  subst this
  intro e
  subst e
  exact hn ha
 ·rcases List.mem_append.1 hx with hx | hx
  ·exact h.rng x hx
  ·have : x = n := by simpa using hx
   subst this
   exact ⟨h0, h1⟩
theorem foldD_ok {f : List GNode} {k : Nat} (hv : ∀ (o : List Int) (n : Int), DOk f o → 0 ≤ n → n < f.length → n ∉ o → DOk f (dfs f k o n) ∧ o <+: dfs f k o n) :
  ∀ (l : List (Int × Int)) (o : List Int), (∀ a ∈ l, 0 ≤ a.2 ∧ a.2 < (f.length : Int)) → DOk f o → DOk f (l.foldl (stepD f k) o) ∧ o <+: l.foldl (stepD f k) o
 | [], o, _, h => ⟨h, List.prefix_refl _⟩
 | a :: l, o, hl, h => by
  simp only [List.foldl_cons]
  have hstep : DOk f (stepD f k o a) ∧ o <+: stepD f k o a := by
   unfold stepD
   split
   ·exact ⟨h, List.prefix_refl _⟩
   ·rename_i hn
    exact hv o a.2 h (hl a (by simp)).1 (hl a (by simp)).2 hn
  obtain ⟨g1, g2⟩ := foldD_ok hv l _ (fun b hb => hl b (by simp [hb])) hstep.1
  exact ⟨g1, hstep.2.trans g2⟩
theorem arcs_in' {f : List GNode} (hf : GoodF f) {n : Int} {a : Int × Int} (ha : a ∈ (f.getD n.toNat (0, [])).2) : 0 ≤ a.2 ∧ a.2 < f.length := by
 by_cases h : n.toNat < f.length
 ·have hm : f.getD n.toNat (0, []) ∈ f := by
   rw [List.getD_eq_getElem?_getD, List.getElem?_eq_getElem h]; exact List.getElem_mem h
  exact (hf.2 _ hm).2 a ha
 ·rw [List.getD_eq_getElem?_getD, List.getElem?_eq_none (by omega)] at ha
  simp at ha
theorem dfs_ok {f : List GNode} (hf : GoodF f) : ∀ (k : Nat) (o : List Int) (n : Int), DOk f o → 0 ≤ n → n < f.length → n ∉ o → DOk f (dfs f k o n) ∧ o <+: dfs f k o n
 | 0, o, n, h, _, _, _ => ⟨h, List.prefix_refl _⟩
 | k + 1, o, n, h, h0, h1, h2 => by
  obtain ⟨g1, g2⟩ := foldD_ok (dfs_ok hf k) _ _ (fun a ha => arcs_in' hf ha) (h.snoc h0 h1 h2)
  rw [dfs_succ]
  exact ⟨g1, (List.prefix_append o [n]).trans g2⟩
theorem dfs_closed {f : List GNode} (hf : GoodF f) : ∀ (k : Nat) (o : List Int) (n : Int), DOk f o → 0 ≤ n → n < f.length → n ∉ o → f.length - o.length ≤ k →
  n ∈ dfs f k o n ∧ ∀ x ∈ dfs f k o n, x ∈ o ∨ ∀ a ∈ (f.getD x.toNat (0, [])).2, a.2 ∈ dfs f k o n
 | 0, o, n, h, h0, h1, h2, hk => by
  have := (h.snoc h0 h1 h2).len
  simp only [List.length_append, List.length_singleton] at this
  omega
 | k + 1, o, n, h, h0, h1, h2, hk => by
  have key : ∀ (l : List (Int × Int)) (t : List Int), (∀ a ∈ l, 0 ≤ a.2 ∧ a.2 < (f.length : Int)) → DOk f t → f.length - t.length ≤ k →
    (∀ a ∈ l, a.2 ∈ l.foldl (stepD f k) t) ∧ ∀ x ∈ l.foldl (stepD f k) t, x ∈ t ∨ ∀ a ∈ (f.getD x.toNat (0, [])).2, a.2 ∈ l.foldl (stepD f k) t := by
   intro l
   induction l with
   | nil => exact fun t _ _ _ => ⟨fun a ha => (by cases ha), fun x hx => .inl hx⟩
   | cons a l ih =>
    intro t hl ht hlen
    simp only [List.foldl_cons]
    have hstep : DOk f (stepD f k t a) ∧ t <+: stepD f k t a ∧ a.2 ∈ stepD f k t a ∧ ∀ x ∈ stepD f k t a, x ∈ t ∨ ∀ b ∈ (f.getD x.toNat (0, [])).2, b.2 ∈ stepD f k t a := by
     unfold stepD
     split
     ·rename_i hn
      exact ⟨ht, List.prefix_refl _, hn, fun x hx => .inl hx⟩
     ·rename_i hn
      have q := hl a (by simp)
      obtain ⟨g1, g2⟩ := dfs_ok hf k t a.2 ht q.1 q.2 hn
      obtain ⟨g3, g4⟩ := dfs_closed hf k t a.2 ht q.1 q.2 hn hlen
      exact ⟨g1, g2, g3, g4⟩
    obtain ⟨g1, g2, g3, g4⟩ := hstep
    have hle := g2.length_le
    obtain ⟨i1, i2⟩ := ih (stepD f k t a) (fun b hb => hl b (by simp [hb])) g1 (by omega)
    obtain ⟨_, j2⟩ := foldD_ok (dfs_ok hf k) l (stepD f k t a) (fun b hb => hl b (by simp [hb])) g1
    refine ⟨fun b hb => ?_, fun x hx => ?_⟩
    ·rcases List.mem_cons.1 hb with rfl | hb
     ·exact j2.subset g3
     ·exact i1 b hb
    ·rcases i2 x hx with hx | hx
     ·rcases g4 x hx with hx | hx
      ·exact .inl hx
      ·exact .inr fun b hb => j2.subset (hx b hb)
     ·exact .inr hx
  have hs := h.snoc h0 h1 h2
  obtain ⟨g1, g2⟩ := key (f.getD n.toNat (0, [])).2 (o ++ [n]) (fun a ha => arcs_in' hf ha) hs (by simp only [List.length_append, List.length_singleton]; omega)
  obtain ⟨_, g3⟩ := foldD_ok (dfs_ok hf k) (f.getD n.toNat (0, [])).2 (o ++ [n]) (fun a ha => arcs_in' hf ha) hs
  rw [dfs_succ]
  refine ⟨g3.subset (by simp), fun x hx => ?_⟩
  rcases g2 x hx with hx | hx
  ·rcases List.mem_append.1 hx with hx | hx
   ·exact .inl hx
   ·have : x = n := by simpa using hx
    subst this
    exact .inr g1
  ·exact .inr hx
def idxZ (o : List Int) (x : Int) : Int := if x ∈ o then (o.idxOf x : Int) else 0
def renD (o : List Int) (a : Int × Int) : Int × Int := (a.1, idxZ o a.2)
def nodeD (f : List GNode) (o : List Int) (n : Int) : GNode := ((f.getD n.toNat (0, [])).1, (f.getD n.toNat (0, [])).2.map (renD o))
def canonicalF (f : List GNode) (root : Int) : List GNode := (dfs f f.length [] root).map (nodeD f (dfs f f.length [] root))
def SrtF (f : List GNode) : Prop := ∀ x ∈ f, SrtA x.2 ∧ x.2.length ≤ 200
theorem srt_of {f : List GNode} (hf : SrtF f) (n : Int) : SrtA (f.getD n.toNat (0, [])).2 ∧ (f.getD n.toNat (0, [])).2.length ≤ 200 := by
 by_cases h : n.toNat < f.length
 ·have hm : f.getD n.toNat (0, []) ∈ f := by
   rw [List.getD_eq_getElem?_getD, List.getElem?_eq_getElem h]; exact List.getElem_mem h
  exact hf _ hm
 ·rw [List.getD_eq_getElem?_getD, List.getElem?_eq_none (by omega)]
  exact ⟨fun i hi => by simp at hi, by simp⟩
theorem sortedF_srt {l : List (Int × Int)} (h : SrtA l) : sortedF l = l := by
 have key : ∀ i, i ≤ l.length → sortedF (l.take i) = l.take i := by
  intro i
  induction i with
  | zero => intro _; rfl
  | succ i ih =>
   intro hi
   rw [take_snoc l (0, 0) (by omega), sortedF_snoc, ih (by omega)]
   have hlen : (l.take i).length = i := by rw [List.length_take]; omega
   have hpos : posF (l.getD i (0, 0)) (l.take i) (l.take i).length = (l.take i).length := by
    rw [hlen]
    cases i with
    | zero => rfl
    | succ i =>
     have h1 := h i (by omega)
     have h2 : (l.take (i + 1)).getD i (0, 0) = l.getD i (0, 0) := by
      simp only [List.getD_eq_getElem?_getD]
      rw [List.getElem?_take]; simp
     simp only [posF]
     rw [h2, if_neg (by omega)]
   unfold insF
   rw [hpos, List.take_length, List.drop_length, List.append_nil]
 have := key l.length (Nat.le_refl _)
 rwa [List.take_length] at this
structure NumOk (f : List GNode) (num o : List Int) : Prop where
 len : num.length = f.length
 get : ∀ j, j < f.length → num.getD j 0 = if (j : Int) ∈ o then (o.idxOf (j : Int) : Int) else -1
theorem NumOk.neg {f : List GNode} {num o : List Int} (h : NumOk f num o) {n : Int} (h0 : 0 ≤ n) (h1 : n < f.length) : num.getD n.toNat 0 < 0 ↔ n ∉ o := by
 have := h.get n.toNat (by omega)
 rw [show ((n.toNat : Nat) : Int) = n by omega] at this
 rw [this]
 split
 ·rename_i hm
  constructor
  ·intro e; omega
  ·intro e; exact absurd hm e
 ·rename_i hm
  exact ⟨fun _ => hm, fun _ => by omega⟩
theorem idxOf_mem {o : List Int} {x n : Int} (h : x ∈ o) : (o ++ [n]).idxOf x = o.idxOf x := by rw [List.idxOf_append, if_pos h]
theorem idxOf_new {o : List Int} {n : Int} (h : n ∉ o) : (o ++ [n]).idxOf n = o.length := by rw [List.idxOf_append, if_neg h]; simp
theorem NumOk.snoc {f : List GNode} {num o : List Int} (h : NumOk f num o) {n : Int} (h0 : 0 ≤ n) (h1 : n < f.length) (hn : n ∉ o) : NumOk f (num.set n.toNat (o.length : Int)) (o ++ [n]) := by
 refine ⟨by simpa using h.len, fun j hj => ?_⟩
 have hj' : j < num.length := by rw [h.len]; exact hj
 by_cases e : j = n.toNat
 ·subst e
  have en : ((n.toNat : Nat) : Int) = n := by omega
  rw [en]
  simp only [List.getD_eq_getElem?_getD]
  rw [List.getElem?_set_self hj', if_pos (by simp), idxOf_new hn]
  simp
 ·have en : ¬ (j : Int) = n := by omega
  simp only [List.getD_eq_getElem?_getD]
  rw [List.getElem?_set_ne (fun e' => e e'.symm)]
  have := h.get j hj
  simp only [List.getD_eq_getElem?_getD] at this
  rw [this]
  by_cases hm : (j : Int) ∈ o
  ·rw [if_pos hm, if_pos (by simp [hm]), idxOf_mem hm]
  ·rw [if_neg hm, if_neg (by simp [hm, en])]
theorem visitF_dfs {f : List GNode} (hf : GoodF f) (hs : SrtF f) : ∀ (k : Nat) (s : List Int × List Int) (n : Int), NumOk f s.1 s.2 → DOk f s.2 → 0 ≤ n → n < f.length → n ∉ s.2 → (visitF f k s n).2 = dfs f k s.2 n ∧ NumOk f (visitF f k s n).1 (visitF f k s n).2
 | 0, s, n, h, _, _, _, _ => ⟨rfl, h⟩
 | k + 1, s, n, h, hd, h0, h1, h2 => by
  have key : ∀ (l : List (Int × Int)) (t : List Int × List Int), (∀ a ∈ l, 0 ≤ a.2 ∧ a.2 < (f.length : Int)) → NumOk f t.1 t.2 → DOk f t.2 → (l.foldl (stepV f k) t).2 = l.foldl (stepD f k) t.2 ∧ NumOk f (l.foldl (stepV f k) t).1 (l.foldl (stepV f k) t).2 := by
   intro l
   induction l with
   | nil => exact fun t _ ht _ => ⟨rfl, ht⟩
   | cons a l ih =>
    intro t hl ht htd
    simp only [List.foldl_cons]
    have q := hl a (by simp)
    have hq := ht.neg q.1 q.2
    have hstep : (stepV f k t a).2 = stepD f k t.2 a ∧ NumOk f (stepV f k t a).1 (stepV f k t a).2 ∧ DOk f (stepV f k t a).2 := by
     unfold stepV stepD
     by_cases hm : a.2 ∈ t.2
     ·rw [if_pos hm, if_neg (by rw [hq]; exact fun e => e hm)]
      exact ⟨rfl, ht, htd⟩
     ·rw [if_neg hm, if_pos (by rw [hq]; exact hm)]
      obtain ⟨g1, g2⟩ := visitF_dfs hf hs k t a.2 ht htd q.1 q.2 hm
      exact ⟨g1, g2, by rw [g1]; exact (dfs_ok hf k t.2 a.2 htd q.1 q.2 hm).1⟩
    obtain ⟨g1, g2, g3⟩ := hstep
    obtain ⟨i1, i2⟩ := ih (stepV f k t a) (fun b hb => hl b (by simp [hb])) g2 g3
    rw [g1] at i1
    exact ⟨i1, i2⟩
  rw [visitF_succ, dfs_succ, sortedF_srt (srt_of hs n).1]
  exact key _ (s.1.set n.toNat (s.2.length : Int), s.2 ++ [n]) (fun a ha => arcs_in' hf ha) (h.snoc h0 h1 h2) (hd.snoc h0 h1 h2)
theorem from_canonical {f : List GNode} (hf : GoodF f) (hs : SrtF f) {root : Int} (h0 : 0 ≤ root) (h1 : root < f.length) : fromF f root = canonicalF f root := by
 have hn0 : NumOk f (List.replicate f.length (-1)) [] := ⟨by simp, fun j hj => by simp [List.getD_eq_getElem?_getD, List.getElem?_replicate, hj]⟩
 have hd0 : DOk f [] := ⟨by simp, fun x hx => by cases hx⟩
 obtain ⟨g1, g2⟩ := visitF_dfs hf hs f.length (List.replicate f.length (-1), []) root hn0 hd0 h0 h1 (by simp)
 have g1 : (travF f root).2 = dfs f f.length [] root := g1
 have g2 : NumOk f (travF f root).1 (travF f root).2 := g2
 have hc := (dfs_closed hf f.length [] root hd0 h0 h1 (by simp) (by simp)).2
 have ho := (dfs_ok hf f.length [] root hd0 h0 h1 (by simp)).1
 unfold fromF canonicalF
 rw [g1] at g2 ⊢
 generalize dfs f f.length [] root = o at *
 refine List.map_congr_left fun x hx => ?_
 unfold nodeF nodeD
 rw [sortedF_srt (srt_of hs x).1]
 refine congrArg _ (List.map_congr_left fun a ha => ?_)
 unfold renA renD idxZ
 have hin : a.2 ∈ o := by
  rcases hc x hx with hx' | hx'
  ·cases hx'
  ·exact hx' a ha
 have hr := arcs_in' hf ha
 have := g2.get a.2.toNat (by omega)
 rw [show ((a.2.toNat : Nat) : Int) = a.2 by omega] at this
 rw [this, if_pos hin, if_pos hin]
/-! The program's map of numbers -/
def mOf (o : List Int) : List (Int × Int) := (List.range o.length).map fun i => (o.getD i 0, (i : Int))
theorem mOf_snoc (o : List Int) (n : Int) : mOf (o ++ [n]) = mOf o ++ [(n, (o.length : Int))] := by
 unfold mOf
 rw [List.length_append, List.length_singleton, List.range_succ, List.map_append]
 congr 1
 ·refine List.map_congr_left fun i hi => ?_
  have : i < o.length := List.mem_range.1 hi
  simp only [List.getD_eq_getElem?_getD]
  rw [List.getElem?_append_left this]
 ·simp [List.getD_eq_getElem?_getD]
theorem mfind_app (k : Int) (a b : List (Int × Int)) : mfind T3 T3 k (a ++ b) = (mfind T3 T3 k a).or (mfind T3 T3 k b) := by
 induction a with
 | nil => rfl
 | cons x a ih =>
  simp only [List.cons_append, mfind]
  split
  ·rfl
  ·exact ih
theorem list_snoc_ind {α : Type} {p : List α → Prop} (h0 : p []) (h1 : ∀ l a, p l → p (l ++ [a])) (l : List α) : p l := by
 have : ∀ n (l : List α), l.length = n → p l := by
  intro n
  induction n with
  | zero => intro l hl; rw [List.length_eq_zero_iff.1 hl]; exact h0
  | succ n ih =>
   intro l hl
   have hne : l ≠ [] := by intro e; subst e; simp at hl
   rw [← List.dropLast_concat_getLast hne]
   exact h1 _ _ (ih _ (by simp [hl]))
 exact this _ l rfl
theorem mfind_mOf (o : List Int) (x : Int) : mfind T3 T3 x (mOf o) = if x ∈ o then some (o.idxOf x : Int) else none := by
 induction o using list_snoc_ind with
 | h0 => rfl
 | h1 o n ih =>
  rw [mOf_snoc, mfind_app, ih]
  by_cases hx : x ∈ o
  ·rw [if_pos hx, if_pos (by simp [hx]), idxOf_mem hx]; rfl
  ·rw [if_neg hx]
   by_cases hn : x = n
   ·subst hn
    rw [if_pos (by simp), idxOf_new hx]
    simp [mfind, eqT]
   ·rw [if_neg (by simp [hx, hn])]
    have : ((x == n) = true) ↔ False := by simp [hn]
    simp [mfind, eqT, hn]
theorem mput_none (k v : Int) (l : List (Int × Int)) (h : mfind T3 T3 k l = none) : mput T3 T3 k v l = l ++ [(k, v)] := by
 induction l with
 | nil => rfl
 | cons x l ih =>
  simp only [mfind] at h
  simp only [mput, List.cons_append]
  split at h
  ·cases h
  ·rename_i hne
   rw [if_neg hne, ih h]
theorem mput_mOf {o : List Int} {n : Int} (hn : n ∉ o) : mput T3 T3 n (o.length : Int) (mOf o) = mOf (o ++ [n]) := by
 rw [mput_none _ _ _ (by rw [mfind_mOf, if_neg hn]), mOf_snoc]
theorem idxZ_eq (o : List Int) (x : Int) : (mfind T3 T3 x (mOf o)).getD 0 = idxZ o x := by
 rw [mfind_mOf]
 unfold idxZ
 split <;> rfl
theorem isSome_mOf (o : List Int) (x : Int) : (mfind T3 T3 x (mOf o)).isSome = decide (x ∈ o) := by
 rw [mfind_mOf]
 split <;> simp [*]
end
/- Functions of Go's library under graph.canonical: the sort of sorted elements. -/
section
attribute [local go_sem] byFeatureS
theorem srtA_lt {l : List (Int × Int)} (hs : SrtA l) : ∀ {d i : Nat}, i + d + 1 < l.length → (l.getD i (0, 0)).1 < (l.getD (i + d + 1) (0, 0)).1
 | 0, i, h => hs i h
 | d + 1, i, h => by
  have h1 := srtA_lt hs (d := d) (i := i) (by omega)
  have h2 := hs (i + d + 1) (by omega)
  rw [show i + (d + 1) + 1 = i + d + 1 + 1 by omega]
  omega
theorem srtA_lt2 {l : List (Int × Int)} (hs : SrtA l) {i j : Nat} (h : i < j) (hj : j < l.length) : (l.getD i (0, 0)).1 < (l.getD j (0, 0)).1 := by
 have := srtA_lt hs (d := j - i - 1) (i := i) (by omega)
 rwa [show i + (j - i - 1) + 1 = j by omega] at this
theorem cmpI_gt {a b : Int} (h : a < b) : ¬ cmpI b a < 0 := by
 unfold cmpI
 rw [if_neg (by omega), if_pos h]
 omega
def swO (l : List (Int × Int)) : List (Nat × Obj) := [(1000000, .arr 108 T108 l), (70, .box 3 false [.p T3 (0 : Int)])]
theorem order2_ok (l : List (Int × Int)) (hs : SrtA l) {a b : Int} (a0 : 0 ≤ a) (ab : a < b) (bl : b < (l.length : Int)) : CallM Tryz.prog 232 [.sr 1000000 T108 0 l.length, .p T3 a, .p T3 b, .bp 70 [] 0, .fn 172] (swO l) [1000000, 70] (fun res objs' => res = .tup [.p T3 a, .p T3 b] ∧ objs' = swO l) := by
 refine fnM_ok Tryz.func232 (by kernel_rfl) rfl Tryz.ntmps232 (by simp only [List.length_cons, List.length_nil]; omega) (by kernel_rfl) rfl rfl (tyTab_ok [(172, byFeatureS)]) (fns_cons byFeature_ok fns_nil) ?_
 intro w0 K O0 ρ0 hc hok1 hok2
 have b0 : 0 ≤ b := by omega
 have al : a < (l.length : Int) := by omega
 simp only [argEnv, swO]
 repeat' (first | exact trivial | refine eS rfl ?_ | refine ev_out_inv ?_ | refine rX [0, 1, 2, 3, 4, 10, 11, 22] hc ?_ ?_ | (refine rC (fun hcond => ?_) (fun hcond => ?_) <;> try (cases hcond; done)))
 ·exact ⟨⟨b0, bl⟩, a0, al⟩
 ·exfalso
  exact cmpI_gt (srtA_lt2 hs (i := a.toNat) (j := b.toNat) (by omega) (by omega)) hcond
 ·exfalso
  exact cmpI_gt (srtA_lt2 hs (i := a.toNat) (j := b.toNat) (by omega) (by omega)) hcond
 ·exact ev_finM hc [.tmp 10, .tmp 11] rfl (.inl rfl) (.tup [.p T3 a, .p T3 b]) eT ⟨rfl, rfl⟩
theorem median_ok (l : List (Int × Int)) (hs : SrtA l) {a b c : Int} (a0 : 0 ≤ a) (ab : a < b) (bc : b < c) (cl : c < (l.length : Int)) : CallM Tryz.prog 229 [.sr 1000000 T108 0 l.length, .p T3 a, .p T3 b, .p T3 c, .bp 70 [] 0, .fn 172] (swO l) [1000000, 70] (fun res objs' => res = .p T3 b ∧ objs' = swO l) := by
 refine fnM_ok Tryz.func229 (by kernel_rfl) rfl Tryz.ntmps229 (by simp only [List.length_cons, List.length_nil]; omega) (by kernel_rfl) rfl rfl (tyTab_ok []) fns_nil ?_
 intro w0 K O0 ρ0 hc hok1 hok2
 simp only [argEnv, swO]
 have bl : b < (l.length : Int) := by omega
 have b0 : 0 ≤ b := by omega
 have key1 := order2_ok l hs a0 ab bl
 have key2 := order2_ok l hs b0 bc cl
 repeat' (first | exact trivial | refine eS rfl ?_ | refine ev_out_inv ?_ | refine rX [0, 1, 2, 3, 4, 5, 12] hc ?_ ?_ | (refine rC (fun hcond => ?_) (fun hcond => ?_) <;> try (cases hcond; done)))
 refine cP 5 hc ?_ ?_
 ·trivial
 ·refine rM hc (key1) [(1000000, .nm 1000000), (70, .nm 70)] [] ?_ ?_ ?_
  ·first | exact eN | refine eM ?_
  ·simp only [swO]
   first | exact eN | refine eM ?_
  ·rintro _ _ ⟨rfl, rfl⟩
   refine ⟨[(1000000, .nm 1000000), (70, .nm 70)], .tup [.p T3 a, .p T3 b], [(1000000, .arr 108 T108 l), (70, .box 3 false [.p T3 (0 : Int)])], rfl, rfl, ?_, ?_, rfl, rfl, ?_⟩
   ·simp only [swO]
    first | exact eN | refine eM ?_
   ·first | exact eN | refine eM ?_
   ·refine rL [0, 1, 2, 3, 4, 5, 12] hc ?_ ?_
    ·trivial
    ·repeat' (first | exact trivial | refine eS rfl ?_ | refine ev_out_inv ?_ | refine rX [0, 1, 2, 3, 4, 5, 12] hc ?_ ?_ | (refine rC (fun hcond => ?_) (fun hcond => ?_) <;> try (cases hcond; done)))
     refine cP 5 hc ?_ ?_
     ·trivial
     ·refine rM hc (key2) [(1000000, .nm 1000000), (70, .nm 70)] [] ?_ ?_ ?_
      ·first | exact eN | refine eM ?_
      ·simp only [swO]
       first | exact eN | refine eM ?_
      ·rintro _ _ ⟨rfl, rfl⟩
       refine ⟨[(1000000, .nm 1000000), (70, .nm 70)], .tup [.p T3 b, .p T3 c], [(1000000, .arr 108 T108 l), (70, .box 3 false [.p T3 (0 : Int)])], rfl, rfl, ?_, ?_, rfl, rfl, ?_⟩
       ·simp only [swO]
        first | exact eN | refine eM ?_
       ·first | exact eN | refine eM ?_
       ·refine rL [0, 1, 2, 3, 4, 5, 12] hc ?_ ?_
        ·trivial
        ·repeat' (first | exact trivial | refine eS rfl ?_ | refine ev_out_inv ?_ | refine rX [0, 1, 2, 3, 4, 5, 12] hc ?_ ?_ | (refine rC (fun hcond => ?_) (fun hcond => ?_) <;> try (cases hcond; done)))
         refine cP 5 hc ?_ ?_
         ·trivial
         ·refine rM hc (key1) [(1000000, .nm 1000000), (70, .nm 70)] [] ?_ ?_ ?_
          ·first | exact eN | refine eM ?_
          ·simp only [swO]
           first | exact eN | refine eM ?_
          ·rintro _ _ ⟨rfl, rfl⟩
           refine ⟨[(1000000, .nm 1000000), (70, .nm 70)], .tup [.p T3 a, .p T3 b], [(1000000, .arr 108 T108 l), (70, .box 3 false [.p T3 (0 : Int)])], rfl, rfl, ?_, ?_, rfl, rfl, ?_⟩
           ·simp only [swO]
            first | exact eN | refine eM ?_
           ·first | exact eN | refine eM ?_
           ·refine rL [0, 1, 2, 3, 4, 5, 12] hc ?_ ?_
            ·trivial
            ·repeat' (first | exact trivial | refine eS rfl ?_ | refine ev_out_inv ?_ | refine rX [0, 1, 2, 3, 4, 5, 12] hc ?_ ?_ | (refine rC (fun hcond => ?_) (fun hcond => ?_) <;> try (cases hcond; done)))
             exact ev_finM hc [.tmp 12] rfl (.inl rfl) (.p T3 b) eT ⟨rfl, rfl⟩
theorem adjacent_ok (l : List (Int × Int)) (hs : SrtA l) {b : Int} (b0 : 1 ≤ b) (bl : b + 1 < (l.length : Int)) (hl : l.length ≤ 100000) : CallM Tryz.prog 228 [.sr 1000000 T108 0 l.length, .p T3 b, .bp 70 [] 0, .fn 172] (swO l) [1000000, 70] (fun res objs' => res = .p T3 b ∧ objs' = swO l) := by
 refine fnM_ok Tryz.func228 (by kernel_rfl) rfl Tryz.ntmps228 (by simp only [List.length_cons, List.length_nil]; omega) (by kernel_rfl) rfl rfl (tyTab_ok []) fns_nil ?_
 intro w0 K O0 ρ0 hc hok1 hok2
 simp only [argEnv, swO]
 repeat' (first | exact trivial | refine eS rfl ?_ | refine ev_out_inv ?_ | refine rX [0, 1, 2, 3, 8] hc ?_ ?_ | (refine rC (fun hcond => ?_) (fun hcond => ?_) <;> try (cases hcond; done)))
 refine cP 8 hc ?_ ?_
 ·exact eV
 ·refine rM hc (median_ok l hs (a := b - 1) (b := b) (c := b + 1) (by omega) (by omega) (by omega) bl) [(1000000, .nm 1000000), (70, .nm 70)] [] ?_ ?_ ?_
  ·first | exact eN | refine eM ?_
  ·simp only [swO]
   first | exact eN | refine eM ?_
  ·rintro _ _ ⟨rfl, rfl⟩
   refine ⟨[(1000000, .nm 1000000), (70, .nm 70)], .p T3 b, [(1000000, .arr 108 T108 l), (70, .box 3 false [.p T3 (0 : Int)])], rfl, rfl, ?_, ?_, rfl, rfl, ?_⟩
   ·simp only [swO]
    first | exact eN | refine eM ?_
   ·first | exact eN | refine eM ?_
   ·refine rL [0, 1, 2, 3, 8] hc ?_ ?_
    ·trivial
    ·repeat' (first | exact trivial | refine eS rfl ?_ | refine ev_out_inv ?_ | refine rX [0, 1, 2, 3, 8] hc ?_ ?_ | (refine rC (fun hcond => ?_) (fun hcond => ?_) <;> try (cases hcond; done)))
     exact ev_finM hc [.tmp 8] rfl (.inl rfl) (.p T3 b) eT ⟨rfl, rfl⟩
theorem partial_ok (l : List (Int × Int)) (hs : SrtA l) (h0 : 1 ≤ l.length) (hl : l.length ≤ 100000) : CallM Tryz.prog 222 [.sr 1000000 T108 0 l.length, .p T3 (0 : Int), .p T3 (l.length : Int), .fn 172] [(1000000, .arr 108 T108 l)] [1000000] (fun res objs' => res = .p .bool true ∧ objs' = [(1000000, .arr 108 T108 l)]) := by
 refine fnM_ok Tryz.func222 (by kernel_rfl) rfl Tryz.ntmps222 (by simp only [List.length_cons, List.length_nil]; omega) (by kernel_rfl) rfl rfl (tyTab_ok [(172, byFeatureS)]) (fns_cons byFeature_ok fns_nil) ?_
 intro w0 K O0 ρ0 hc hok1 hok2
 simp only [argEnv]
 repeat' (first | exact trivial | refine eS rfl ?_ | refine ev_out_inv ?_ | refine rX [0, 1, 2, 3, 8, 9, 10, 11, 12, 16, 36, 41, 45, 65, 69, 84, 104, 109, 124] hc ?_ ?_ | (refine rC (fun hcond => ?_) (fun hcond => ?_) <;> try (cases hcond; done)))
 ·exact eV
 ·refine ev_loop (ι := Unit) (fun u => ⟨[(0, .sr 1000000 T108 0 l.length), (1, .p T3 (0 : Int)), (2, .p T3 (l.length : Int)), (3, .fn 172), (9, .p T3 (1 : Int)), (10, .p T3 (0 : Int))], [(1000000, .arr 108 T108 l)]⟩) (fun u => 0) () (ent_match [(1000000, .nm 1000000)] rfl rfl ?_ ?_) (fun u => ?_)
  ·first | exact eN | refine eM ?_
  ·first | exact eN | refine eM ?_
   rfl
  ·repeat' (first | exact trivial | refine eS rfl ?_ | refine ev_out_inv ?_ | refine rX [0, 1, 2, 3, 8, 9, 10, 11, 12, 16, 36, 41, 45, 65, 69, 84, 104, 109, 124] hc ?_ ?_)
   refine rC (fun hcond => ?_) (fun hcond => ?_)
   ·repeat' (first | exact trivial | refine eS rfl ?_ | refine ev_out_inv ?_ | refine rX [0, 1, 2, 3, 8, 9, 10, 11, 12, 16, 36, 41, 45, 65, 69, 84, 104, 109, 124] hc ?_ ?_)
    refine ev_loop (ι := {i : Nat // 1 ≤ i ∧ i ≤ l.length}) (fun i => ⟨[(0, .sr 1000000 T108 0 l.length), (1, .p T3 (0 : Int)), (2, .p T3 (l.length : Int)), (3, .fn 172), (9, .p (.int .i64) (i.1 : Int)), (10, .p T3 (0 : Int))], [(1000000, .arr 108 T108 l)]⟩) (fun i => l.length - i.1) ⟨1, Nat.le_refl _, h0⟩ (ent_match [(1000000, .nm 1000000)] rfl rfl ?_ ?_) (fun i => ?_)
    ·first | exact eN | refine eM ?_
    ·first | exact eN | refine eM ?_
     rfl
    ·obtain ⟨i, hi1, hi2⟩ := i
     have hlt := fun (h : i < l.length) => cmpI_gt (srtA_lt2 hs (i := i - 1) (j := i) (by omega) h)
     have him : ((i : Int) - 1).toNat = i - 1 := by omega
     simp only
     repeat' (first | exact trivial | refine eS rfl ?_ | refine ev_out_inv ?_ | refine rX [0, 1, 2, 3, 8, 9, 10, 11, 12, 16, 36, 41, 45, 65, 69, 84, 104, 109, 124] hc ?_ ?_)
     ·dsimp only [Ty.den] at *
      exact ⟨fun h => h, fun _ => ⟨by omega, by omega⟩, fun _ => ⟨by omega, by omega⟩⟩
     ·refine rC (fun hcond2 => ?_) (fun hcond2 => ?_)
      ·repeat' (first | exact trivial | refine eS rfl ?_ | refine ev_out_inv ?_ | refine rX [0, 1, 2, 3, 8, 9, 10, 11, 12, 16, 36, 41, 45, 65, 69, 84, 104, 109, 124] hc ?_ ?_)
       ·exact eV
       ·refine ⟨⟨i + 1, by omega, Int.ofNat_lt.1 hcond2.1⟩, by have := Int.ofNat_lt.1 hcond2.1; simp only; omega, ent_match [(1000000, .nm 1000000)] rfl rfl ?_ ?_⟩
        ·first | exact eN | refine eM ?_
        ·first | exact eN | refine eM ?_
      ·have hie : i = l.length := by
        refine Classical.byContradiction fun e => ?_
        have h2 : i < l.length := by omega
        have h3 := hcond2 (Int.ofNat_lt.2 h2)
        rw [him] at h3
        exact hlt h2 h3
       subst hie
       repeat' (first | exact trivial | refine eS rfl ?_ | refine ev_out_inv ?_ | refine rX [0, 1, 2, 3, 8, 9, 10, 11, 12, 16, 36, 41, 45, 65, 69, 84, 104, 109, 124] hc ?_ ?_)
       refine rC (fun hcond3 => ?_) (fun hcond3 => ?_)
       ·repeat' (first | exact trivial | refine eS rfl ?_ | refine ev_out_inv ?_ | refine rX [0, 1, 2, 3, 8, 9, 10, 11, 12, 16, 36, 41, 45, 65, 69, 84, 104, 109, 124] hc ?_ ?_)
        exact ev_finM hc [.tmp 8] rfl (.inl rfl) (.p .bool true) eT ⟨rfl, rfl⟩
       ·cases hcond3
   ·exact absurd hcond (by decide)
theorem choose_ok (l : List (Int × Int)) (hs : SrtA l) (h0 : 13 ≤ l.length) (hl : l.length ≤ 100000) : CallM Tryz.prog 220 [.sr 1000000 T108 0 l.length, .p T3 (0 : Int), .p T3 (l.length : Int), .fn 172] [(1000000, .arr 108 T108 l)] [1000000] (fun res objs' => (∃ j : Int, res = .tup [.p T3 j, .p T3 (1 : Int)]) ∧ objs' = [(1000000, .arr 108 T108 l)]) := by
 refine fnM_ok Tryz.func220 (by kernel_rfl) rfl Tryz.ntmps220 (by simp only [List.length_cons, List.length_nil]; omega) (by kernel_rfl) rfl rfl (tyTab_ok []) fns_nil ?_
 intro w0 K O0 ρ0 hc hok1 hok2
 simp only [argEnv]
 have ht : 0 ≤ ((l.length : Int) - 0).tdiv 4 ∧ 4 * ((l.length : Int) - 0).tdiv 4 ≤ (l.length : Int) ∧ (l.length : Int) < 4 * ((l.length : Int) - 0).tdiv 4 + 4 := by
  rw [Int.sub_zero, show ((l.length : Int)).tdiv 4 = ((l.length / 4 : Nat) : Int) from rfl]
  omega
 obtain ⟨ht0, ht1, ht2⟩ := ht
 repeat' (first | exact trivial | refine eS rfl ?_ | refine ev_out_inv ?_ | refine rX [0, 1, 2, 3, 8, 9, 10, 11, 12, 13, 14, 34, 36, 55, 57, 60] hc ?_ ?_ | (refine rC (fun hcond => ?_) (fun hcond => ?_) <;> try (cases hcond; done)))
 ·omega
 ·refine ⟨⟨by decide, ?_⟩, ?_, ?_⟩ <;> omega
 ·refine ⟨⟨by decide, ?_⟩, ?_, ?_⟩ <;> omega
 ·refine ⟨⟨by decide, ?_⟩, ?_, ?_⟩ <;> omega
 ·simp only [Int.sub_zero, Int.zero_add] at *
  generalize (l.length : Int).tdiv 4 = t at *
  refine cP 3 hc ?_ ?_
  ·trivial
  ·refine rM hc (adjacent_ok l hs (b := t * 1) (by omega) (by omega) hl) [(1000000, .nm 1000000), (70, .nm 11)] [] ?_ ?_ ?_
   ·first | exact eN | refine eM ?_
   ·simp only [swO]
    first | exact eN | refine eM ?_
   ·rintro _ _ ⟨rfl, rfl⟩
    refine ⟨[(1000000, .nm 1000000), (11, .nm 70)], .p T3 (t * 1), [(1000000, .arr 108 T108 l), (11, .box 3 false [.p T3 (0 : Int)])], rfl, rfl, ?_, ?_, rfl, rfl, ?_⟩
    ·simp only [swO]
     first | exact eN | refine eM ?_
    ·first | exact eN | refine eM ?_
    ·refine rL [0, 1, 2, 3, 8, 9, 10, 11, 12, 13, 14, 34, 36, 55, 57, 60] hc ?_ ?_
     ·trivial
     ·repeat' (first | exact trivial | refine eS rfl ?_ | refine ev_out_inv ?_ | refine rX [0, 1, 2, 3, 8, 9, 10, 11, 12, 13, 14, 34, 36, 55, 57, 60] hc ?_ ?_ | (refine rC (fun hcond => ?_) (fun hcond => ?_) <;> try (cases hcond; done)))
      refine cP 3 hc ?_ ?_
      ·trivial
      ·refine rM hc (adjacent_ok l hs (b := t * 2) (by omega) (by omega) hl) [(1000000, .nm 1000000), (70, .nm 11)] [] ?_ ?_ ?_
       ·first | exact eN | refine eM ?_
       ·simp only [swO]
        first | exact eN | refine eM ?_
       ·rintro _ _ ⟨rfl, rfl⟩
        refine ⟨[(1000000, .nm 1000000), (11, .nm 70)], .p T3 (t * 2), [(1000000, .arr 108 T108 l), (11, .box 3 false [.p T3 (0 : Int)])], rfl, rfl, ?_, ?_, rfl, rfl, ?_⟩
        ·simp only [swO]
         first | exact eN | refine eM ?_
        ·first | exact eN | refine eM ?_
        ·refine rL [0, 1, 2, 3, 8, 9, 10, 11, 12, 13, 14, 34, 36, 55, 57, 60] hc ?_ ?_
         ·trivial
         ·repeat' (first | exact trivial | refine eS rfl ?_ | refine ev_out_inv ?_ | refine rX [0, 1, 2, 3, 8, 9, 10, 11, 12, 13, 14, 34, 36, 55, 57, 60] hc ?_ ?_ | (refine rC (fun hcond => ?_) (fun hcond => ?_) <;> try (cases hcond; done)))
          refine cP 3 hc ?_ ?_
          ·trivial
          ·refine rM hc (adjacent_ok l hs (b := t * 3) (by omega) (by omega) hl) [(1000000, .nm 1000000), (70, .nm 11)] [] ?_ ?_ ?_
           ·first | exact eN | refine eM ?_
           ·simp only [swO]
            first | exact eN | refine eM ?_
           ·rintro _ _ ⟨rfl, rfl⟩
            refine ⟨[(1000000, .nm 1000000), (11, .nm 70)], .p T3 (t * 3), [(1000000, .arr 108 T108 l), (11, .box 3 false [.p T3 (0 : Int)])], rfl, rfl, ?_, ?_, rfl, rfl, ?_⟩
            ·simp only [swO]
             first | exact eN | refine eM ?_
            ·first | exact eN | refine eM ?_
            ·refine rL [0, 1, 2, 3, 8, 9, 10, 11, 12, 13, 14, 34, 36, 55, 57, 60] hc ?_ ?_
             ·trivial
             ·repeat' (first | exact trivial | refine eS rfl ?_ | refine ev_out_inv ?_ | refine rX [0, 1, 2, 3, 8, 9, 10, 11, 12, 13, 14, 34, 36, 55, 57, 60] hc ?_ ?_ | (refine rC (fun hcond => ?_) (fun hcond => ?_) <;> try (cases hcond; done)))
              refine cP 5 hc ?_ ?_
              ·trivial
              ·refine rM hc (median_ok l hs (a := t * 1) (b := t * 2) (c := t * 3) (by omega) (by omega) (by omega) (by omega)) [(1000000, .nm 1000000), (70, .nm 11)] [] ?_ ?_ ?_
               ·first | exact eN | refine eM ?_
               ·simp only [swO]
                first | exact eN | refine eM ?_
               ·rintro _ _ ⟨rfl, rfl⟩
                refine ⟨[(1000000, .nm 1000000), (11, .nm 70)], .p T3 (t * 2), [(1000000, .arr 108 T108 l), (11, .box 3 false [.p T3 (0 : Int)])], rfl, rfl, ?_, ?_, rfl, rfl, ?_⟩
                ·simp only [swO]
                 first | exact eN | refine eM ?_
                ·first | exact eN | refine eM ?_
                ·refine rL [0, 1, 2, 3, 8, 9, 10, 11, 12, 13, 14, 34, 36, 55, 57, 60] hc ?_ ?_
                 ·trivial
                 ·repeat' (first | exact trivial | refine eS rfl ?_ | refine ev_out_inv ?_ | refine rX [0, 1, 2, 3, 8, 9, 10, 11, 12, 13, 14, 34, 36, 55, 57, 60] hc ?_ ?_ | (refine rC (fun hcond => ?_) (fun hcond => ?_) <;> try (cases hcond; done)))
                  refine Ev.ent (σ' := ⟨[(8, .p T3 (t * 2)), (9, .p T3 (1 : Int))], [(1000000, .arr 108 T108 l)]⟩) ?_ (ent_match [(1000000, .nm 1000000)] rfl rfl ?_ ?_)
                  ·exact ev_finM hc [.tmp 8, .tmp 9] rfl (.inl rfl) (.tup [.p T3 (t * 2), .p T3 (1 : Int)]) eT ⟨⟨_, rfl⟩, rfl⟩
                  ·first | exact eN | refine eM ?_
                  ·first | exact eN | refine eM ?_
 ·simp only [Int.sub_zero, Int.zero_add] at *
  generalize (l.length : Int).tdiv 4 = t at *
  refine cP 5 hc ?_ ?_
  ·trivial
  ·refine rM hc (median_ok l hs (a := t * 1) (b := t * 2) (c := t * 3) (by omega) (by omega) (by omega) (by omega)) [(1000000, .nm 1000000), (70, .nm 11)] [] ?_ ?_ ?_
   ·first | exact eN | refine eM ?_
   ·simp only [swO]
    first | exact eN | refine eM ?_
   ·rintro _ _ ⟨rfl, rfl⟩
    refine ⟨[(1000000, .nm 1000000), (11, .nm 70)], .p T3 (t * 2), [(1000000, .arr 108 T108 l), (11, .box 3 false [.p T3 (0 : Int)])], rfl, rfl, ?_, ?_, rfl, rfl, ?_⟩
    ·simp only [swO]
     first | exact eN | refine eM ?_
    ·first | exact eN | refine eM ?_
    ·refine rL [0, 1, 2, 3, 8, 9, 10, 11, 12, 13, 14, 34, 36, 55, 57, 60] hc ?_ ?_
     ·trivial
     ·repeat' (first | exact trivial | refine eS rfl ?_ | refine ev_out_inv ?_ | refine rX [0, 1, 2, 3, 8, 9, 10, 11, 12, 13, 14, 34, 36, 55, 57, 60] hc ?_ ?_ | (refine rC (fun hcond => ?_) (fun hcond => ?_) <;> try (cases hcond; done)))
      refine Ev.ent (σ' := ⟨[(8, .p T3 (t * 2)), (9, .p T3 (1 : Int))], [(1000000, .arr 108 T108 l)]⟩) ?_ (ent_match [(1000000, .nm 1000000)] rfl rfl ?_ ?_)
      ·exact ev_finM hc [.tmp 8, .tmp 9] rfl (.inl rfl) (.tup [.p T3 (t * 2), .p T3 (1 : Int)]) eT ⟨⟨_, rfl⟩, rfl⟩
      ·first | exact eN | refine eM ?_
      ·first | exact eN | refine eM ?_
 ·exfalso
  omega
theorem pdq_ok (l : List (Int × Int)) (lim : Int) (hl : l.length ≤ 200) (hlim : 13 ≤ l.length → lim ≠ 0) (hs : SrtA l) : CallM Tryz.prog 215 [.sr 1000000 T108 0 l.length, .p T3 (0 : Int), .p T3 (l.length : Int), .p T3 lim, .fn 172] [(1000000, .arr 108 T108 l)] [1000000] (fun res objs' => res = .raw (.tuple #[]) ∧ objs' = [(1000000, .arr 108 T108 l)]) := by
 refine fnM_ok Tryz.func215 (by kernel_rfl) rfl Tryz.ntmps215 (by simp only [List.length_cons, List.length_nil]; omega) (by kernel_rfl) rfl rfl (tyTab_ok []) fns_nil ?_
 intro w0 K O0 ρ0 hc hok1 hok2
 simp only [argEnv]
 repeat' (first | exact trivial | refine eS rfl ?_ | refine ev_out_inv ?_ | refine rX [0, 1, 2, 3, 4, 10, 11, 12, 13, 14, 15, 16, 17, 18, 19, 20, 25, 32, 39, 56, 75, 80, 97, 125] hc ?_ ?_ | (refine rC (fun hcond => ?_) (fun hcond => ?_) <;> try (cases hcond; done)))
 refine ev_loop (ι := Unit) (fun x => ⟨[(0, .sr 1000000 T108 0 l.length), (1, .p T3 (0 : Int)), (2, .p T3 (l.length : Int)), (3, .p T3 lim), (4, .fn 172), (10, .p .bool true), (11, .p .bool true)], [(1000000, .arr 108 T108 l)]⟩) (fun x => 0) () (ent_match [(1000000, .nm 1000000)] rfl rfl ?_ ?_) (fun x => ?_)
 ·first | exact eN | refine eM ?_
 ·first | exact eN | refine eM ?_
 ·repeat' (first | exact trivial | refine eS rfl ?_ | refine ev_out_inv ?_ | refine rX [0, 1, 2, 3, 4, 10, 11, 12, 13, 14, 15, 16, 17, 18, 19, 20, 25, 32, 39, 56, 75, 80, 97, 125] hc ?_ ?_)
  ·omega
  ·refine rC (fun hcond => ?_) (fun hcond => ?_)
   ·repeat' (first | exact trivial | refine eS rfl ?_ | refine ev_out_inv ?_ | refine rX [0, 1, 2, 3, 4, 10, 11, 12, 13, 14, 15, 16, 17, 18, 19, 20, 25, 32, 39, 56, 75, 80, 97, 125] hc ?_ ?_)
    refine cP 4 hc ?_ ?_
    ·trivial
    ·refine rM hc (insertion_ok l (by omega) hs) [(1000000, .nm 1000000)] [] ?_ ?_ ?_
     ·first | exact eN | refine eM ?_
     ·first | exact eN | refine eM ?_
     ·rintro _ _ ⟨rfl, rfl⟩
      refine ⟨[(1000000, .nm 1000000)], .raw (.tuple #[]), [(1000000, .arr 108 T108 l)], rfl, rfl, ?_, ?_, rfl, rfl, evL_end ?_⟩
      ·first | exact eN | refine eM ?_
      ·first | exact eN | refine eM ?_
      ·repeat' (first | exact trivial | refine eS rfl ?_ | refine ev_out_inv ?_ | refine rX [0, 1, 2, 3, 4, 10, 11, 12, 13, 14, 15, 16, 17, 18, 19, 20, 25, 32, 39, 56, 75, 80, 97, 125] hc ?_ ?_)
       exact ev_finM hc [] rfl (.inl rfl) (.raw (.tuple #[])) rfl ⟨rfl, rfl⟩
   ·have h13 : 13 ≤ l.length := by
     have h := Int.not_le.2 hcond
     omega
    repeat' (first | exact trivial | refine eS rfl ?_ | refine ev_out_inv ?_ | refine rX [0, 1, 2, 3, 4, 10, 11, 12, 13, 14, 15, 16, 17, 18, 19, 20, 25, 32, 39, 56, 75, 80, 97, 125] hc ?_ ?_)
    refine rC (fun hcond => ?_) (fun hcond => ?_)
    ·exfalso
     exact hlim h13 hcond
    ·repeat' (first | exact trivial | refine eS rfl ?_ | refine ev_out_inv ?_ | refine rX [0, 1, 2, 3, 4, 10, 11, 12, 13, 14, 15, 16, 17, 18, 19, 20, 25, 32, 39, 56, 75, 80, 97, 125] hc ?_ ?_)
     refine rC (fun hcond => ?_) (fun hcond => ?_)
     ·cases hcond
     ·repeat' (first | exact trivial | refine eS rfl ?_ | refine ev_out_inv ?_ | refine rX [0, 1, 2, 3, 4, 10, 11, 12, 13, 14, 15, 16, 17, 18, 19, 20, 25, 32, 39, 56, 75, 80, 97, 125] hc ?_ ?_)
      refine cP 4 hc ?_ ?_
      ·trivial
      ·refine rM hc (choose_ok l hs h13 (by omega)) [(1000000, .nm 1000000)] [] ?_ ?_ ?_
       ·first | exact eN | refine eM ?_
       ·first | exact eN | refine eM ?_
       ·rintro _ _ ⟨⟨j, rfl⟩, rfl⟩
        refine ⟨[(1000000, .nm 1000000)], .tup [.p T3 j, .p T3 (1 : Int)], [(1000000, .arr 108 T108 l)], rfl, rfl, ?_, ?_, rfl, rfl, ?_⟩
        ·first | exact eN | refine eM ?_
        ·first | exact eN | refine eM ?_
        ·refine rL [0, 1, 2, 3, 4, 10, 11, 12, 13, 14, 15, 16, 17, 18, 19, 20, 25, 32, 39, 56, 75, 80, 97, 125] hc ?_ ?_
         ·trivial
         ·repeat' (first | exact trivial | refine eS rfl ?_ | refine ev_out_inv ?_ | refine rX [0, 1, 2, 3, 4, 10, 11, 12, 13, 14, 15, 16, 17, 18, 19, 20, 25, 32, 39, 56, 75, 80, 97, 125] hc ?_ ?_)
          refine rC (fun hcond => ?_) (fun hcond => ?_)
          ·exact absurd hcond (by decide)
          ·repeat' (first | exact trivial | refine eS rfl ?_ | refine ev_out_inv ?_ | refine rX [0, 1, 2, 3, 4, 10, 11, 12, 13, 14, 15, 16, 17, 18, 19, 20, 25, 32, 39, 56, 75, 80, 97, 125] hc ?_ ?_)
           refine rC (fun hcond => ?_) (fun hcond => ?_)
           ·repeat' (first | exact trivial | refine eS rfl ?_ | refine ev_out_inv ?_ | refine rX [0, 1, 2, 3, 4, 10, 11, 12, 13, 14, 15, 16, 17, 18, 19, 20, 25, 32, 39, 56, 75, 80, 97, 125] hc ?_ ?_)
            refine cP 4 hc ?_ ?_
            ·trivial
            ·refine rM hc (partial_ok l hs (by omega) (by omega)) [(1000000, .nm 1000000)] [] ?_ ?_ ?_
             ·first | exact eN | refine eM ?_
             ·first | exact eN | refine eM ?_
             ·rintro _ _ ⟨rfl, rfl⟩
              refine ⟨[(1000000, .nm 1000000)], .p .bool true, [(1000000, .arr 108 T108 l)], rfl, rfl, ?_, ?_, rfl, rfl, evL_end ?_⟩
              ·first | exact eN | refine eM ?_
              ·first | exact eN | refine eM ?_
              ·repeat' (first | exact trivial | refine eS rfl ?_ | refine ev_out_inv ?_ | refine rX [0, 1, 2, 3, 4, 10, 11, 12, 13, 14, 15, 16, 17, 18, 19, 20, 25, 32, 39, 56, 75, 80, 97, 125] hc ?_ ?_)
               refine rC (fun hcond => ?_) (fun hcond => ?_)
               ·repeat' (first | exact trivial | refine eS rfl ?_ | refine ev_out_inv ?_ | refine rX [0, 1, 2, 3, 4, 10, 11, 12, 13, 14, 15, 16, 17, 18, 19, 20, 25, 32, 39, 56, 75, 80, 97, 125] hc ?_ ?_)
                exact ev_finM hc [] rfl (.inl rfl) (.raw (.tuple #[])) rfl ⟨rfl, rfl⟩
               ·cases hcond
           ·cases hcond
end
/- Functions of Go's library under graph.canonical: Values, AppendSeq, Collect, SortFunc, SortedFunc, of what is sorted. -/
section
theorem loop_eta {L : Go.Loop} (h1 : L.state = .ready) (h2 : L.pending = none) : { { L with state := .busy } with state := .ready, pending := none } = L := by
 cases L; simp_all
theorem values_ok (l : List (Int × Int)) : CallM Tryz.prog 171 [.p T86 l] [] [] (fun res objs' => res = .clo 203 [1] ∧ objs' = [(1, .box 86 false [.p T86 l])]) := by
 refine fnM_ok Tryz.func171 (by kernel_rfl) rfl Tryz.ntmps171 (by simp only [List.length_cons, List.length_nil]; omega) (by kernel_rfl) rfl rfl (tyTab_ok []) fns_nil ?_
 intro w0 K O0 ρ0 hc hok1 hok2
 simp only [argEnv]
 repeat' (first | exact trivial | refine eS rfl ?_ | refine ev_out_inv ?_ | refine rX [0, 1, 2] hc ?_ ?_ | (refine rC (fun hcond => ?_) (fun hcond => ?_) <;> try (cases hcond; done)))
 exact ev_finM hc [.tmp 2] rfl (.inl rfl) (.clo 203 [1]) eT ⟨rfl, rfl⟩
def seqObjs (l : List (Int × Int)) (L : Go.Loop) (tm : Array Value) (i : Nat) : List (Nat × Obj) := [(1, .box 86 false [.p T86 l]), (101, .loop L), (102, .frame tm [(2, .bp 2 [] 0), (6, .clo 203 [1])]), (2, .box 86 false [.sr 7 T108 0 i]), (7, .arr 108 T108 (l.take i))]
theorem values1_ok (l : List (Int × Int)) (hl : l.length ≤ 100000) (L : Go.Loop) (tm : Array Value) (hY : ∀ i, i < l.length → CallY Tryz.prog 101 [.p T108 (l.getD i (0, 0))] (seqObjs l L tm i) [1, 101, 102, 2] (fun res objs' => res = .p .bool true ∧ objs' = seqObjs l L tm (i + 1))) :
  CallM Tryz.prog 203 [.yl 101, .bp 1 [] 0] (seqObjs l L tm 0) [1, 101, 102, 2] (fun res objs' => res = .raw (.tuple #[]) ∧ objs' = seqObjs l L tm l.length) := by
 refine fnM_ok Tryz.func203 (by kernel_rfl) rfl Tryz.ntmps203 (by simp only [List.length_cons, List.length_nil]; omega) (by kernel_rfl) rfl rfl (tyTab_ok []) fns_nil ?_
 intro w0 K O0 ρ0 hc hok1 hok2
 simp only [argEnv, seqObjs]
 repeat' (first | exact trivial | refine eS rfl ?_ | refine ev_out_inv ?_ | refine rX [0, 1, 4, 5, 6, 7, 8, 14] hc ?_ ?_ | (refine rC (fun hcond => ?_) (fun hcond => ?_) <;> try (cases hcond; done)))
 refine ev_loop (ι := {i : Nat // i ≤ l.length}) (fun i => ⟨[(0, .yl 101), (1, .bp 1 [] 0), (5, .p T86 l), (6, .p (.int .i64) (l.length : Int)), (7, .p (.int .i64) (i.1 : Int))], seqObjs l L tm i.1⟩) (fun i => l.length - i.1) ⟨0, by omega⟩ (ent_match [(1, .nm 1), (101, .nm 101), (102, .nm 102), (2, .nm 2), (7, .nm 7)] rfl rfl ?_ ?_) (fun i => ?_)
 ·simp only [seqObjs]
  first | exact eN | refine eM ?_
 ·first | exact eN | refine eM ?_
 ·obtain ⟨i, hi⟩ := i
  simp only [seqObjs]
  repeat' (first | exact trivial | refine eS rfl ?_ | refine ev_out_inv ?_ | refine rX [0, 1, 4, 5, 6, 7, 8, 14] hc ?_ ?_ | (refine rC (fun hcond => ?_) (fun hcond => ?_) <;> try (cases hcond; done)))
  ·exact eV
  ·have hil : i < l.length := by exact eV
   refine cP 2 hc ?_ ?_
   ·trivial
   ·refine rY 101 101 hc (hY i hil) [(1, .nm 1), (101, .nm 101), (102, .nm 102), (2, .nm 2), (7, .nm 7)] [7] ?_ ?_ ?_
    ·first | exact eN | refine eM ?_
    ·simp only [seqObjs]
     first | exact eN | refine eM ?_
    ·rintro _ _ ⟨rfl, rfl⟩
     refine ⟨[(1, .nm 1), (101, .nm 101), (102, .nm 102), (2, .nm 2), (7, .nm 7)], .p .bool true, seqObjs l L tm (i + 1), rfl, rfl, ?_, ?_, rfl, rfl, ?_⟩
     ·simp only [seqObjs]
      first | exact eN | refine eM ?_
     ·first | exact eN | refine eM ?_
     ·simp only [seqObjs]
      refine evLp_all [0, 1, 5, 6, 7, 14] hc (by simp only [go_sem, Nat.reduceEqDiff, reduceCtorEq, Nat.reduceAdd, Nat.reduceSub, Nat.reduceMul, Nat.reduceLeDiff, Nat.reduceLT, Int.reduceLE, Int.reduceToNat, Int.reduceNeg, ↓reduceIte]; rfl) ?_ ?_
      ·trivial
      ·repeat' (first | exact trivial | refine eS rfl ?_ | refine ev_out_inv ?_ | refine rX [0, 1, 4, 5, 6, 7, 8, 14] hc ?_ ?_ | (refine rC (fun hcond => ?_) (fun hcond => ?_) <;> try (cases hcond; done)))
       ·exact eV
       ·refine ⟨⟨i + 1, by omega⟩, by simp only; omega, ent_match [(1, .nm 1), (101, .nm 101), (102, .nm 102), (2, .nm 2), (7, .nm 7)] rfl rfl ?_ ?_⟩
        ·simp only [seqObjs]
         first | exact eN | refine eM ?_
        ·first | exact eN | refine eM ?_
  ·have hil : i = l.length := by exact eV
   subst hil
   refine ev_finM hc [] rfl (.inr rfl) (.raw (.tuple #[])) rfl ⟨rfl, ?_⟩
   simp only [seqObjs, List.take_length]
theorem appendSeq_ok (l : List (Int × Int)) (hl : l.length ≤ 100000) : CallM Tryz.prog 214 [.raw (.slice none 0 0), .clo 203 [1]] [(1, .box 86 false [.p T86 l])] [] (fun res objs' => res = .sr 7 T108 0 l.length ∧ objs' = [(7, .arr 108 T108 l)]) := by
 refine fnMR_ok Tryz.func214 (by kernel_rfl) rfl Tryz.ntmps214 (by simp only [List.length_cons, List.length_nil]; omega) (by kernel_rfl) rfl rfl (tyTab_ok []) fns_nil ?_
 intro w0 K O0 ρ0 hc hok1 hok2
 simp only [argEnv]
 repeat' (first | exact trivial | refine eS rfl ?_ | refine ev_out_inv ?_ | refine rX [0, 1, 2, 4, 5, 6, 7] hc ?_ ?_ | (refine rC (fun hcond => ?_) (fun hcond => ?_) <;> try (cases hcond; done)))
 refine ev_range hc rfl rfl (by simp only [go_sem, Nat.reduceEqDiff, reduceCtorEq, Nat.reduceAdd, Nat.reduceSub, Nat.reduceMul, Nat.reduceLeDiff, Nat.reduceLT, Int.reduceLE, Int.reduceToNat, Int.reduceNeg, ↓reduceIte]; rfl) 101 103 102 rfl rfl rfl rfl ?_
 intro L tm hL1 hL2 hL3 hL4 hL5 hL6 htm
 refine ⟨_, seqObjs l L tm 0, [1, 101, 102, 2], _, [(1, .nm 1), (101, .nm 101), (102, .nm 102), (2, .nm 2), (7, .nil)], [], values1_ok l hl L tm ?_, rfl, rfl, ?_, ?_, rfl, ?_⟩
 ·intro i hi
  refine callY_ok (fr := 102) rfl rfl hL1 hL4 hL5 hL6 hL3 htm rfl (by kernel_rfl) (by simp) rfl rfl (by kernel_rfl) (by kernel_rfl) (tyTab_ok []) fns_nil ?_
  intro w1 K1 O1 ρ1 lb hc hok3 hok4 hb
  simp only [seqObjs, parEnv]
  repeat' (first | exact trivial | refine eS rfl ?_ | refine ev_out_inv ?_ | refine rX [0, 1, 2, 4, 5, 6, 7] hc ?_ ?_ | (refine rC (fun hcond => ?_) (fun hcond => ?_) <;> try (cases hcond; done)))
  refine ⟨rfl, ?_⟩
  repeat' (first | exact trivial | refine eS rfl ?_ | refine ev_out_inv ?_ | refine rX [0, 1, 2, 4, 5, 6, 7] hc ?_ ?_ | (refine rC (fun hcond => ?_) (fun hcond => ?_) <;> try (cases hcond; done)))
  ·simp only [maxN]; omega
  ·have e : List.take i (List.take i l) ++ [((l.getD i (0, 0)).1, (l.getD i (0, 0)).2)] = l.take (i + 1) := by
    rw [take_snoc l (0, 0) hi, List.take_of_length_le (Nat.le_of_eq (by rw [List.length_take]; omega) : (l.take i).length ≤ i)]
   refine Ev.ent (σ' := ⟨[], [(1, .box 86 false [.p T86 l]), (101, .loop { L with state := .busy }), (102, .frame tm [(2, .bp 2 [] 0), (6, .clo 203 [1])]), (2, .box 86 false [.sr 7 T108 0 (i + 1)]), (7, .arr 108 T108 (l.take (i + 1)))]⟩) ?_ (ent_match [(1, .nm 1), (101, .nm 101), (102, .nm 102), (2, .nm 2), (7, .nm 7)] rfl rfl ?_ ?_)
   ·refine ev_roundN hc (yn := 101) rfl rfl (by simp) hb ⟨rfl, ?_⟩
    simp only [seqObjs, go_sem, Nat.reduceEqDiff, reduceCtorEq, Nat.reduceAdd, Nat.reduceSub, Nat.reduceMul, Nat.reduceLeDiff, Nat.reduceLT, Int.reduceLE, Int.reduceToNat, Int.reduceNeg, ↓reduceIte, loop_eta hL1 hL2]
   ·first | exact eN | refine eM ?_
    exact e
   ·first | exact eN | refine eM ?_
 ·simp only [rangeSt]
  first | exact eN | refine eM ?_
 ·simp only [rangeSt, seqObjs]
  first | exact eN | refine eM ?_
 ·rintro _ _ ⟨rfl, rfl⟩
  refine ⟨[(1, .nm 1), (101, .nm 101), (102, .nm 102), (2, .nm 2), (7, .nm 7)], seqObjs l L tm l.length, L, rfl, rfl, ?_, rfl, rfl, rfl, by rw [hL1]; rfl, ?_⟩
  ·simp only [seqObjs]
   first | exact eN | refine eM ?_
  ·intro b
   rw [hL2]
   simp only [EvJ, seqObjs, rangeSt, go_sem, Nat.reduceEqDiff, reduceCtorEq, Nat.reduceAdd, Nat.reduceSub, Nat.reduceMul, Nat.reduceLeDiff, Nat.reduceLT, Int.reduceLE, Int.reduceToNat, Int.reduceNeg, ↓reduceIte]
   replace hc := marked_ok (dn := 103) (b := b) hc
   repeat' (first | exact trivial | refine eS rfl ?_ | refine ev_out_inv ?_ | refine rX [0, 1, 2, 4, 5, 6, 7] hc ?_ ?_ | (refine rC (fun hcond => ?_) (fun hcond => ?_) <;> try (cases hcond; done)))
   refine Ev.ent (σ' := ⟨[(4, .sr 7 T108 0 l.length)], [(7, .arr 108 T108 l), (103, .dfr)]⟩) ?_ (ent_match [(7, .nm 7), (103, .nm 103)] rfl rfl ?_ ?_)
   ·exact ev_finMR hc [.tmp 4] rfl (.inl rfl) rfl rfl (.sr 7 T108 0 l.length) eT ⟨rfl, by simp only [go_sem, Nat.reduceEqDiff, reduceCtorEq, Nat.reduceAdd, Nat.reduceSub, Nat.reduceMul, Nat.reduceLeDiff, Nat.reduceLT, Int.reduceLE, Int.reduceToNat, Int.reduceNeg, ↓reduceIte]⟩
   ·first | exact eN | refine eM ?_
   ·first | exact eN | refine eM ?_
theorem collect_ok (l : List (Int × Int)) (hl : l.length ≤ 100000) : CallM Tryz.prog 201 [.clo 203 [1]] [(1, .box 86 false [.p T86 l])] [] (fun res objs' => res = .sr 7 T108 0 l.length ∧ objs' = [(7, .arr 108 T108 l)]) := by
 refine fnM_ok Tryz.func201 (by kernel_rfl) rfl Tryz.ntmps201 (by simp only [List.length_cons, List.length_nil]; omega) (by kernel_rfl) rfl rfl (tyTab_ok []) fns_nil ?_
 intro w0 K O0 ρ0 hc hok1 hok2
 simp only [argEnv]
 repeat' (first | exact trivial | refine eS rfl ?_ | refine ev_out_inv ?_ | refine rX [0, 2] hc ?_ ?_ | (refine rC (fun hcond => ?_) (fun hcond => ?_) <;> try (cases hcond; done)))
 refine cP 1 hc ?_ ?_
 ·trivial
 ·refine rM hc (appendSeq_ok l hl) [(1, .nm 1)] [1] ?_ ?_ ?_
  ·first | exact eN | refine eM ?_
  ·first | exact eN | refine eM ?_
  ·rintro _ _ ⟨rfl, rfl⟩
   refine ⟨[(7, .nm 7)], .sr 7 T108 0 l.length, [(7, .arr 108 T108 l)], rfl, rfl, ?_, ?_, rfl, rfl, ?_⟩
   ·first | exact eN | refine eM ?_
   ·first | exact eN | refine eM ?_
   ·refine evLp_all [2] hc (by simp only [go_sem, Nat.reduceEqDiff, reduceCtorEq, Nat.reduceAdd, Nat.reduceSub, Nat.reduceMul, Nat.reduceLeDiff, Nat.reduceLT, Int.reduceLE, Int.reduceToNat, Int.reduceNeg, ↓reduceIte]; rfl) ?_ ?_
    ·trivial
    ·repeat' (first | exact trivial | refine eS rfl ?_ | refine ev_out_inv ?_ | refine rX [0, 2] hc ?_ ?_ | (refine rC (fun hcond => ?_) (fun hcond => ?_) <;> try (cases hcond; done)))
     exact ev_finM hc [.tmp 2] rfl (.inl rfl) (.sr 7 T108 0 l.length) eT ⟨rfl, rfl⟩
theorem len64_ok (x : Int) (h0 : 0 ≤ x) (h1 : x < 256) : CallM Tryz.prog 160 [.p (.int .u64) x] [] [] (fun res objs' => (∃ n : Int, res = .p T3 n ∧ (13 ≤ x → n ≠ 0)) ∧ objs' = []) := by
 refine fnM_ok Tryz.func160 (by kernel_rfl) rfl Tryz.ntmps160 (by simp only [List.length_cons, List.length_nil]; omega) (by kernel_rfl) rfl rfl (tyTab_ok []) fns_nil ?_
 intro w0 K O0 ρ0 hc hok1 hok2
 simp only [argEnv]
 repeat' (first | exact trivial | refine eS rfl ?_ | refine ev_out_inv ?_ | refine rX [0, 2, 4, 8, 14] hc ?_ ?_ | (refine rC (fun hcond => ?_) (fun hcond => ?_) <;> try (cases hcond; done)))
 all_goals first | (exfalso; omega) | skip
 refine evp_regionP [0, 2] hc rfl (by simp only [go_sem, Nat.reduceEqDiff, reduceCtorEq, Nat.reduceAdd, Nat.reduceSub, Nat.reduceMul, Nat.reduceLeDiff, Nat.reduceLT, Int.reduceLE, Int.reduceToNat, Int.reduceNeg, ↓reduceIte, ByteArray.size, List.size_toArray, maxN]; rfl) ?_ ?_
 ·have hu : ∀ u : UInt8, ((u.toNat : Nat) : Int) ≤ 255 := fun u => by have := u.toNat_lt; omega
  refine ⟨⟨h0, by omega⟩, ⟨h0, ?_⟩, ⟨?_, ?_⟩, ?_, ?_⟩
  ·have h2 : x < ((256 : Nat) : Int) := h1
   exact h2
  ·exact Int.le_trans (by decide) (Int.natCast_nonneg _)
  ·exact Int.le_trans (hu _) (by decide)
  ·rw [Int.zero_add]; exact Int.le_trans (by decide) (Int.natCast_nonneg _)
  ·rw [Int.zero_add]; exact Int.le_trans (hu _) (by decide)
 ·repeat' (first | exact trivial | refine eS rfl ?_ | refine ev_out_inv ?_ | refine rX [0, 2, 4, 8, 14] hc ?_ ?_ | (refine rC (fun hcond => ?_) (fun hcond => ?_) <;> try (cases hcond; done)))
  refine ev_finM hc [.tmp 2] rfl (.inl rfl) (.p T3 _) (by simp only [retAV, ret1, retAVs, notAT, resV, resLoad, pureOf, go_sem, Nat.reduceEqDiff, reduceCtorEq, Nat.reduceAdd, Nat.reduceSub, Nat.reduceMul, Nat.reduceLeDiff, Nat.reduceLT, Int.reduceLE, Int.reduceToNat, Int.reduceNeg, ↓reduceIte]; rfl) ⟨⟨_, rfl, fun h13 => ?_⟩, rfl⟩
  rw [Int.zero_add]
  intro e
  replace e := Int.ofNat.inj e
  have hk2 : x.toNat < 256 := by omega
  have hk3 : 13 ≤ x.toNat := by omega
  generalize x.toNat = k at *
  clear hcond
  exact absurd e (by
   clear e
   revert hk3
   revert hk2
   revert k
   decide)
theorem len_ok (x : Int) (h0 : 0 ≤ x) (h1 : x < 256) : CallM Tryz.prog 119 [.p (.int .u64) x] [] [] (fun res objs' => (∃ n : Int, res = .p T3 n ∧ (13 ≤ x → n ≠ 0)) ∧ objs' = []) := by
 refine fnM_ok Tryz.func119 (by kernel_rfl) rfl Tryz.ntmps119 (by simp only [List.length_cons, List.length_nil]; omega) (by kernel_rfl) rfl rfl (tyTab_ok []) fns_nil ?_
 intro w0 K O0 ρ0 hc hok1 hok2
 simp only [argEnv]
 repeat' (first | exact trivial | refine eS rfl ?_ | refine ev_out_inv ?_ | refine rX [0, 2] hc ?_ ?_ | (refine rC (fun hcond => ?_) (fun hcond => ?_) <;> try (cases hcond; done)))
 refine cP 1 hc ?_ ?_
 ·trivial
 ·refine rM hc (len64_ok x h0 h1) [] [] ?_ ?_ ?_
  ·first | exact eN | refine eM ?_
  ·first | exact eN | refine eM ?_
  ·rintro _ _ ⟨⟨n, rfl, hnz⟩, rfl⟩
   refine ⟨[], .p T3 n, [], rfl, rfl, ?_, ?_, rfl, rfl, ?_⟩
   ·first | exact eN | refine eM ?_
   ·first | exact eN | refine eM ?_
   ·refine evLp_all [2] hc (by simp only [go_sem, Nat.reduceEqDiff, reduceCtorEq, Nat.reduceAdd, Nat.reduceSub, Nat.reduceMul, Nat.reduceLeDiff, Nat.reduceLT, Int.reduceLE, Int.reduceToNat, Int.reduceNeg, ↓reduceIte]; rfl) ?_ ?_
    ·trivial
    ·repeat' (first | exact trivial | refine eS rfl ?_ | refine ev_out_inv ?_ | refine rX [0, 2] hc ?_ ?_ | (refine rC (fun hcond => ?_) (fun hcond => ?_) <;> try (cases hcond; done)))
     exact ev_finM hc [.tmp 2] rfl (.inl rfl) (.p T3 n) eT ⟨⟨_, rfl, hnz⟩, rfl⟩
theorem sortFunc_ok (l : List (Int × Int)) (hl : l.length ≤ 200) (hs : SrtA l) : CallM Tryz.prog 202 [.sr 1000000 T108 0 l.length, .fn 172] [(1000000, .arr 108 T108 l)] [1000000] (fun res objs' => res = .raw (.tuple #[]) ∧ objs' = [(1000000, .arr 108 T108 l)]) := by
 refine fnM_ok Tryz.func202 (by kernel_rfl) rfl Tryz.ntmps202 (by simp only [List.length_cons, List.length_nil]; omega) (by kernel_rfl) rfl rfl (tyTab_ok []) fns_nil ?_
 intro w0 K O0 ρ0 hc hok1 hok2
 simp only [argEnv]
 repeat' (first | exact trivial | refine eS rfl ?_ | refine ev_out_inv ?_ | refine rX [0, 1, 4] hc ?_ ?_ | (refine rC (fun hcond => ?_) (fun hcond => ?_) <;> try (cases hcond; done)))
 refine cP 4 hc ?_ ?_
 ·exact eV
 ·refine rM hc (len_ok (l.length : Int) (by omega) (by omega)) [] [] ?_ ?_ ?_
  ·first | exact eN | refine eM ?_
  ·first | exact eN | refine eM ?_
  ·rintro _ _ ⟨⟨n, rfl, hnz⟩, rfl⟩
   refine ⟨[], .p T3 n, [], rfl, rfl, ?_, ?_, rfl, rfl, ?_⟩
   ·first | exact eN | refine eM ?_
   ·first | exact eN | refine eM ?_
   ·refine evL_seq hc 1 (by simp only [go_sem, Nat.reduceEqDiff, reduceCtorEq, Nat.reduceAdd, Nat.reduceSub, Nat.reduceMul, Nat.reduceLeDiff, Nat.reduceLT, Int.reduceLE, Int.reduceToNat, Int.reduceNeg, ↓reduceIte]; rfl) ?_ ?_
    ·trivial
    ·refine rM hc (pdq_ok l n hl (fun h => hnz (by omega)) hs) [(1000000, .nm 1000000)] [] ?_ ?_ ?_
     ·first | exact eN | refine eM ?_
     ·first | exact eN | refine eM ?_
     ·rintro _ _ ⟨rfl, rfl⟩
      refine ⟨[(1000000, .nm 1000000)], .raw (.tuple #[]), [(1000000, .arr 108 T108 l)], rfl, rfl, ?_, ?_, rfl, rfl, evL_end ?_⟩
      ·first | exact eN | refine eM ?_
      ·first | exact eN | refine eM ?_
      ·repeat' (first | exact trivial | refine eS rfl ?_ | refine ev_out_inv ?_ | refine rX [0, 1, 4] hc ?_ ?_ | (refine rC (fun hcond => ?_) (fun hcond => ?_) <;> try (cases hcond; done)))
       exact ev_finM hc [] rfl (.inr rfl) (.raw (.tuple #[])) rfl ⟨rfl, rfl⟩
theorem sortedFunc_ok (l : List (Int × Int)) (hl : l.length ≤ 200) (hs : SrtA l) : CallM Tryz.prog 170 [.clo 203 [1], .fn 172] [(1, .box 86 false [.p T86 l])] [] (fun res objs' => res = .sr 7 T108 0 l.length ∧ objs' = [(7, .arr 108 T108 l)]) := by
 refine fnM_ok Tryz.func170 (by kernel_rfl) rfl Tryz.ntmps170 (by simp only [List.length_cons, List.length_nil]; omega) (by kernel_rfl) rfl rfl (tyTab_ok []) fns_nil ?_
 intro w0 K O0 ρ0 hc hok1 hok2
 simp only [argEnv]
 repeat' (first | exact trivial | refine eS rfl ?_ | refine ev_out_inv ?_ | refine rX [0, 1, 4, 5] hc ?_ ?_ | (refine rC (fun hcond => ?_) (fun hcond => ?_) <;> try (cases hcond; done)))
 refine cP 1 hc ?_ ?_
 ·trivial
 ·refine rM hc (collect_ok l (by omega)) [(1, .nm 1)] [1] ?_ ?_ ?_
  ·first | exact eN | refine eM ?_
  ·first | exact eN | refine eM ?_
  ·rintro _ _ ⟨rfl, rfl⟩
   refine ⟨[(1000000, .nm 7)], .sr 1000000 T108 0 l.length, [(1000000, .arr 108 T108 l)], rfl, rfl, ?_, ?_, rfl, rfl, ?_⟩
   ·first | exact eN | refine eM ?_
   ·first | exact eN | refine eM ?_
   ·refine evLp_all [1, 5] hc (by simp only [go_sem, Nat.reduceEqDiff, reduceCtorEq, Nat.reduceAdd, Nat.reduceSub, Nat.reduceMul, Nat.reduceLeDiff, Nat.reduceLT, Int.reduceLE, Int.reduceToNat, Int.reduceNeg, ↓reduceIte]; rfl) ?_ ?_
    ·trivial
    ·repeat' (first | exact trivial | refine eS rfl ?_ | refine ev_out_inv ?_ | refine rX [0, 1, 4, 5] hc ?_ ?_ | (refine rC (fun hcond => ?_) (fun hcond => ?_) <;> try (cases hcond; done)))
     refine cP 2 hc ?_ ?_
     ·trivial
     ·refine rM hc (sortFunc_ok l hl hs) [(1000000, .nm 1000000)] [] ?_ ?_ ?_
      ·first | exact eN | refine eM ?_
      ·first | exact eN | refine eM ?_
      ·rintro _ _ ⟨rfl, rfl⟩
       refine ⟨[(1000000, .nm 1000000)], .raw (.tuple #[]), [(1000000, .arr 108 T108 l)], rfl, rfl, ?_, ?_, rfl, rfl, evL_end ?_⟩
       ·first | exact eN | refine eM ?_
       ·first | exact eN | refine eM ?_
       ·repeat' (first | exact trivial | refine eS rfl ?_ | refine ev_out_inv ?_ | refine rX [0, 1, 4, 5] hc ?_ ?_ | (refine rC (fun hcond => ?_) (fun hcond => ?_) <;> try (cases hcond; done)))
        refine Ev.ent (σ' := ⟨[(4, .sr 7 T108 0 l.length)], [(7, .arr 108 T108 l)]⟩) ?_ (ent_match [(7, .nm 1000000)] rfl rfl ?_ ?_)
        ·exact ev_finM hc [.tmp 4] rfl (.inl rfl) (.sr 7 T108 0 l.length) eT ⟨rfl, rfl⟩
        ·first | exact eN | refine eM ?_
        ·first | exact eN | refine eM ?_
end
/- Functions of graph: canonical's search. -/
section
def vObjs (f : List GNode) (o : List Int) : List (Nat × Obj) := [(1, .box 40 false [.sr 5 T3 0 o.length]), (2, .box 228 false [.mp 6]), (3, .box 25 true [.p T23 f]), (4, .box 206 false [.clo 169 [1, 2, 3, 4]]), (5, .arr 3 T3 o), (6, .mapo T3 T3 (mOf o))]
theorem visitM_ok (f : List GNode) (hf : GoodF f) (hs : SrtF f) : ∀ (k : Nat) (o : List Int) (n : Int), DOk f o → 0 ≤ n → n < f.length → n ∉ o → f.length - o.length ≤ k →
  CallM Tryz.prog 169 [.p T3 n, .bp 1 [] 0, .bp 2 [] 0, .bp 3 [] 0, .bp 4 [] 0] (vObjs f o) [1, 2, 3, 4, 6] (fun res objs' => res = .raw (.tuple #[]) ∧ objs' = vObjs f (dfs f k o n)) := by
 intro k
 induction k with
 | zero =>
  intro o n h0 h1 h2 h3 h4
  have := (h0.snoc h1 h2 h3).len
  simp only [List.length_append, List.length_singleton] at this
  omega
 | succ k ih =>
  intro o n hd hn0 hn1 hno hk
  have hd1 := hd.snoc hn0 hn1 hno
  have hlen := hd1.len
  simp only [List.length_append, List.length_singleton] at hlen
  have hfl := hf.1
  refine fnM_ok Tryz.func169 (by kernel_rfl) rfl Tryz.ntmps169 (by simp only [List.length_cons, List.length_nil]; omega) (by kernel_rfl) rfl rfl (tyTab_ok []) fns_nil ?_
  intro w0 K O0 ρ0 hc hok1 hok2
  simp only [vObjs, argEnv]
  repeat' (first | exact trivial | refine eS rfl ?_ | refine ev_out_inv ?_ | refine rX [0, 1, 2, 3, 4, 7, 9, 25, 26, 27, 28, 39] hc ?_ ?_ | (refine rC (fun hcond => ?_) (fun hcond => ?_) <;> try (cases hcond; done)))
  ·simp only [maxN]; omega
  ·rw [mput_mOf hno]
   obtain ⟨hsrt, hl12⟩ := srt_of hs n
   have harcs := fun a (ha : a ∈ (f.getD n.toNat (0, [])).2) => arcs_in' hf ha
   have hdfs : dfs f (k + 1) o n = (f.getD n.toNat (0, [])).2.foldl (stepD f k) (o ++ [n]) := dfs_succ f k o n
   refine cP 6 hc ?_ ?_
   ·exact ⟨hn0, hn1⟩
   ·generalize (f.getD n.toNat (0, [])).2 = L at *
    refine rM hc (values_ok L) [] [] ?_ ?_ ?_
    ·first | exact eN | refine eM ?_
    ·first | exact eN | refine eM ?_
    ·rintro _ _ ⟨rfl, rfl⟩
     refine ⟨[(50, .nm 1)], .clo 203 [50], [(50, .box 86 false [.p T86 L])], rfl, rfl, ?_, ?_, rfl, rfl, ?_⟩
     ·first | exact eN | refine eM ?_
     ·first | exact eN | refine eM ?_
     ·refine rM hc (sortedFunc_ok L hl12 hsrt) [(1, .nm 50)] [50] ?_ ?_ ?_
      ·first | exact eN | refine eM ?_
      ·first | exact eN | refine eM ?_
      ·rintro _ _ ⟨rfl, rfl⟩
       refine ⟨[(51, .nm 7)], .sr 51 T108 0 L.length, [(51, .arr 108 T108 L)], rfl, rfl, ?_, ?_, rfl, rfl, ?_⟩
       ·first | exact eN | refine eM ?_
       ·first | exact eN | refine eM ?_
       ·refine evLp_all [0, 1, 2, 3, 4, 25, 26, 27] hc (by simp only [go_sem, Nat.reduceEqDiff, reduceCtorEq, Nat.reduceAdd, Nat.reduceSub, Nat.reduceMul, Nat.reduceLeDiff, Nat.reduceLT, Int.reduceLE, Int.reduceToNat, Int.reduceNeg, ↓reduceIte]; rfl) ?_ ?_
        ·trivial
        ·have hs1 : ∀ i, DOk f ((L.take i).foldl (stepD f k) (o ++ [n])) ∧ o ++ [n] <+: (L.take i).foldl (stepD f k) (o ++ [n]) := fun i => foldD_ok (dfs_ok hf k) _ _ (fun a ha => harcs a (List.mem_of_mem_take ha)) hd1
         generalize ho1 : o ++ [n] = o1 at *
         have hol : o1.length = o.length + 1 := by rw [← ho1]; simp
         rw [← hol]
         repeat' (first | exact trivial | refine eS rfl ?_ | refine ev_out_inv ?_ | refine rX [0, 1, 2, 3, 4, 7, 9, 25, 26, 27, 28, 39] hc ?_ ?_ | (refine rC (fun hcond => ?_) (fun hcond => ?_) <;> try (cases hcond; done)))
         refine ev_loop (ι := {i : Nat // i ≤ L.length}) (fun i => ⟨[(0, .p T3 n), (1, .bp 1 [] 0), (2, .bp 2 [] 0), (3, .bp 3 [] 0), (4, .bp 4 [] 0), (25, .p T86 L), (26, .p (.int .i64) (L.length : Int)), (27, .p (.int .i64) (i.1 : Int))], vObjs f ((L.take i.1).foldl (stepD f k) o1)⟩) (fun i => L.length - i.1) ⟨0, by omega⟩ (frzT [51] (ent_match [(1, .nm 1), (2, .nm 2), (3, .nm 3), (4, .nm 4), (5, .nm 5), (6, .nm 6)] rfl rfl ?_ ?_)) (fun i => ?_)
         ·simp only [vObjs, List.take_zero, List.foldl_nil]
          first | exact eN | refine eM ?_
         ·first | exact eN | refine eM ?_
         ·obtain ⟨i, hi⟩ := i
          obtain ⟨hdi, hpi⟩ := hs1 i
          have hnext := fun (h : i < L.length) => fold_take (stepD f k) L (0, 0) o1 h
          have hlei := hpi.length_le
          generalize hoi : (L.take i).foldl (stepD f k) o1 = oi at hdi hpi hnext hlei
          simp only [vObjs]
          repeat' (first | exact trivial | refine eS rfl ?_ | refine ev_out_inv ?_ | refine rX [0, 1, 2, 3, 4, 7, 9, 25, 26, 27, 28, 39] hc ?_ ?_ | (refine rC (fun hcond => ?_) (fun hcond => ?_) <;> try (cases hcond; done)))
          ·exact eV
          ·have hiL : i < L.length := by exact eV
           have hr := harcs _ (mem_of_take_succ L (0, 0) hiL)
           have hno2 : (L.getD i (0, 0)).2 ∉ oi := by rw [isSome_mOf] at hcond; simpa using hcond
           refine cP 3 hc ?_ ?_
           ·trivial
           ·refine rM hc (ih oi (L.getD i (0, 0)).2 hdi hr.1 hr.2 hno2 (by omega)) [(1, .nm 1), (2, .nm 2), (3, .nm 3), (4, .nm 4), (5, .nm 5), (6, .nm 6)] [5] ?_ ?_ ?_
            ·first | exact eN | refine eM ?_
            ·simp only [vObjs]
             first | exact eN | refine eM ?_
            ·rintro _ _ ⟨rfl, rfl⟩
             refine ⟨[(1, .nm 1), (2, .nm 2), (3, .nm 3), (4, .nm 4), (5, .nm 5), (6, .nm 6)], .raw (.tuple #[]), vObjs f (dfs f k oi (L.getD i (0, 0)).2), rfl, rfl, ?_, ?_, rfl, rfl, evL_end ?_⟩
             ·simp only [vObjs]
              first | exact eN | refine eM ?_
             ·first | exact eN | refine eM ?_
             ·simp only [vObjs]
              repeat' (first | exact trivial | refine eS rfl ?_ | refine ev_out_inv ?_ | refine rX [0, 1, 2, 3, 4, 7, 9, 25, 26, 27, 28, 39] hc ?_ ?_ | (refine rC (fun hcond => ?_) (fun hcond => ?_) <;> try (cases hcond; done)))
              ·exact eV
              ·have e : stepD f k oi (L.getD i (0, 0)) = dfs f k oi (L.getD i (0, 0)).2 := if_neg hno2
               refine ⟨⟨i + 1, by omega⟩, by simp only; omega, ent_match [(1, .nm 1), (2, .nm 2), (3, .nm 3), (4, .nm 4), (5, .nm 5), (6, .nm 6)] rfl rfl ?_ ?_⟩
               ·simp only [hnext hiL, e]
                first | exact eN | refine eM ?_
               ·first | exact eN | refine eM ?_
          ·exact eV
          ·have hiL : i < L.length := by exact eV
           have hno2 : (L.getD i (0, 0)).2 ∈ oi := by rw [isSome_mOf] at hcond; simpa using hcond
           have e : stepD f k oi (L.getD i (0, 0)) = oi := if_pos hno2
           refine ⟨⟨i + 1, by omega⟩, by simp only; omega, ent_match [(1, .nm 1), (2, .nm 2), (3, .nm 3), (4, .nm 4), (5, .nm 5), (6, .nm 6)] rfl rfl ?_ ?_⟩
           ·simp only [hnext hiL, e]
            first | exact eN | refine eM ?_
           ·first | exact eN | refine eM ?_
          ·have hk : L.take i = L := List.take_of_length_le (by exact eV)
           rw [hk] at hoi
           rw [hdfs, hoi]
           exact ev_finM hc [] rfl (.inr rfl) (.raw (.tuple #[])) rfl ⟨rfl, rfl⟩
end
/- Functions of graph: canonical, Sub. -/
section
def canonicalS : Spec := { ins := [T25, T3], pre := fun (f, n, _) => GoodF f ∧ SrtF f ∧ 0 ≤ n ∧ n < (List.length f : Int), out := fun (f, n, _) => [.p T25 (canonicalF f n)] }
attribute [local go_sem] canonicalS
theorem fill_step {α β : Type} (g : α → β) (o : List α) (d : α) (z : β) {i : Nat} (h : i < o.length) : ((o.take i).map g ++ List.replicate (o.length - i) z).set i (g (o.getD i d)) = (o.take (i + 1)).map g ++ List.replicate (o.length - (i + 1)) z := by
 obtain ⟨m, hm⟩ : ∃ m, o.length - i = m + 1 := ⟨o.length - i - 1, by omega⟩
 have hm2 : o.length - (i + 1) = m := by omega
 have hl : ((o.take i).map g).length = i := by rw [List.length_map, List.length_take]; omega
 rw [hm, hm2, List.set_append_right _ _ (by omega), hl, Nat.sub_self, List.replicate_succ, List.set_cons_zero, take_snoc o d h, List.map_append]
 simp
theorem canonical_ok : FnOk Tryz.prog 124 canonicalS := by
 refine fn_ok Tryz.func124 (by kernel_rfl) rfl Tryz.ntmps124 (by decide) (by kernel_rfl) (tyTab_ok []) fns_nil ?_
 rintro w0 O0 ⟨f, root, u⟩ hc - ⟨hf, hs, hr0, hr1⟩
 simp only [canonicalS, entEnv]
 have hfl := hf.1
 have hd0 : DOk f [] := ⟨by simp, fun x hx => by cases hx⟩
 obtain ⟨hdo, hpo⟩ := dfs_ok hf f.length [] root hd0 hr0 hr1 (by simp)
 have hcan : canonicalF f root = (dfs f f.length [] root).map (nodeD f (dfs f f.length [] root)) := rfl
 rw [hcan]
 repeat' (first | exact trivial | refine eS rfl ?_ | refine ev_out_inv ?_ | refine rX [0, 1, 2, 4, 5, 6, 7, 8, 9, 10, 11, 12, 22, 23, 24, 25, 38, 39, 40] hc ?_ ?_ | (refine rC (fun hcond => ?_) (fun hcond => ?_) <;> try (cases hcond; done)))
 refine cP 2 hc ?_ ?_
 ·trivial
 ·refine rM hc (visitM_ok f hf hs (List.length f) [] root hd0 hr0 hr1 (by simp) (by simp)) [(1, .nm 6), (2, .nm 5), (3, .nm 2), (4, .nm 7), (5, .nil), (6, .nm 13)] [] ?_ ?_ ?_
  ·first | exact eN | refine eM ?_
  ·simp only [vObjs]
   first | exact eN | refine eM ?_
   rfl
  ·rintro _ _ ⟨rfl, rfl⟩
   refine ⟨[(6, .nm 1), (5, .nm 2), (2, .nm 3), (7, .nm 4), (101, .nm 5), (13, .nm 6)], .raw (.tuple #[]), [(6, .box 40 false [.sr 101 T3 0 (dfs f (List.length f) [] root).length]), (5, .box 228 false [.mp 13]), (2, .box 25 true [.p T23 f]), (7, .box 206 false [.clo 169 [6, 5, 2, 7]]), (101, .arr 3 T3 (dfs f (List.length f) [] root)), (13, .mapo T3 T3 (mOf (dfs f (List.length f) [] root)))], rfl, rfl, ?_, ?_, rfl, rfl, evL_end ?_⟩
   ·simp only [vObjs]
    first | exact eN | refine eM ?_
   ·first | exact eN | refine eM ?_
   ·generalize dfs f (List.length f) [] root = o at *
    have hol := hdo.len
    repeat' (first | exact trivial | refine eS rfl ?_ | refine ev_out_inv ?_ | refine rX [0, 1, 2, 4, 5, 6, 7, 8, 9, 10, 11, 12, 22, 23, 24, 25, 38, 39, 40] hc ?_ ?_ | (refine rC (fun hcond => ?_) (fun hcond => ?_) <;> try (cases hcond; done)))
    ·simp only [maxN]; omega
    ·refine ev_loop (ι := {i : Nat // i ≤ o.length}) (fun i => ⟨[(2, .bp 2 [] 0), (4, .bp 4 [] 0), (5, .bp 5 [] 0), (8, .bp 8 [] 0), (22, .sr 101 T3 0 o.length), (23, .p (.int .i64) (o.length : Int)), (24, .p (.int .i64) (i.1 : Int))], [(8, .box 25 true [.sr 20 T88 0 o.length]), (20, .arr 88 T88 ((o.take i.1).map (nodeD f o) ++ List.replicate (o.length - i.1) (0, []))), (5, .box 228 false [.mp 13]), (2, .box 25 true [.p T23 f]), (101, .arr 3 T3 o), (13, .mapo T3 T3 (mOf o)), (4, .box 25 true [.raw (.slice none 0 0)])]⟩) (fun i => o.length - i.1) ⟨0, by omega⟩ (ent_match [(8, .nm 8), (20, .nm 20), (5, .nm 5), (2, .nm 2), (101, .nm 101), (13, .nm 13), (4, .nm 4)] rfl rfl ?_ ?_) (fun i => ?_)
     ·first | exact eN | refine eM ?_
     ·first | exact eN | refine eM ?_
     ·obtain ⟨i, hi⟩ := i
      repeat' (first | exact trivial | refine eS rfl ?_ | refine ev_out_inv ?_ | refine rX [0, 1, 2, 4, 5, 6, 7, 8, 9, 10, 11, 12, 22, 23, 24, 25, 38, 39, 40] hc ?_ ?_ | (refine rC (fun hcond => ?_) (fun hcond => ?_) <;> try (cases hcond; done)))
      ·exact eV
      ·have hio : i < o.length := by exact eV
       have hn := hdo.rng _ (mem_of_take_succ o 0 hio)
       have hnode : nodeD f o (o.getD i 0) = ((f.getD (o.getD i 0).toNat (0, [])).1, (f.getD (o.getD i 0).toNat (0, [])).2.map (renD o)) := rfl
       obtain ⟨hsrt, hl12⟩ := srt_of hs (o.getD i 0)
       refine cP 6 hc ?_ ?_
       ·exact hn
       ·have hne : List.length f ≤ 100000 := hfl
        generalize hnn : o.getD i 0 = n at *
        generalize hfx : f.getD n.toNat (0, []) = x at *
        obtain ⟨xt, L⟩ := x
        simp only at hsrt hl12 hnode
        refine rM hc (values_ok L) [] [] ?_ ?_ ?_
        ·first | exact eN | refine eM ?_
        ·first | exact eN | refine eM ?_
        ·rintro _ _ ⟨rfl, rfl⟩
         refine ⟨[(50, .nm 1)], .clo 203 [50], [(50, .box 86 false [.p T86 L])], rfl, rfl, ?_, ?_, rfl, rfl, ?_⟩
         ·first | exact eN | refine eM ?_
         ·first | exact eN | refine eM ?_
         ·refine rM hc (sortedFunc_ok L hl12 hsrt) [(1, .nm 50)] [50] ?_ ?_ ?_
          ·first | exact eN | refine eM ?_
          ·first | exact eN | refine eM ?_
          ·rintro _ _ ⟨rfl, rfl⟩
           refine ⟨[(51, .nm 7)], .sr 51 T108 0 L.length, [(51, .arr 108 T108 L)], rfl, rfl, ?_, ?_, rfl, rfl, ?_⟩
           ·first | exact eN | refine eM ?_
           ·first | exact eN | refine eM ?_
           ·refine evLp_all [2, 4, 5, 8, 9, 10, 11, 22, 23, 24] hc (by simp only [go_sem, Nat.reduceEqDiff, reduceCtorEq, Nat.reduceAdd, Nat.reduceSub, Nat.reduceMul, Nat.reduceLeDiff, Nat.reduceLT, Int.reduceLE, Int.reduceToNat, Int.reduceNeg, ↓reduceIte]; rfl) ?_ ?_
            ·trivial
            ·repeat' (first | exact trivial | refine eS rfl ?_ | refine ev_out_inv ?_ | refine rX [0, 1, 2, 4, 5, 6, 7, 8, 9, 10, 11, 12, 22, 23, 24, 25, 38, 39, 40] hc ?_ ?_ | (refine rC (fun hcond => ?_) (fun hcond => ?_) <;> try (cases hcond; done)))
             refine ev_loop (ι := {k : Nat // k ≤ L.length}) (fun k => ⟨[(2, .bp 2 [] 0), (4, .bp 4 [] 0), (5, .bp 5 [] 0), (8, .bp 8 [] 0), (9, .p (.int .i64) (i : Int)), (10, .p T3 n), (11, .sr 51 T108 0 L.length), (22, .sr 101 T3 0 o.length), (23, .p (.int .i64) (o.length : Int)), (24, .p (.int .i64) (i : Int)), (38, .p (.int .i64) (L.length : Int)), (39, .p (.int .i64) (k.1 : Int))], [(51, .arr 108 T108 ((L.take k.1).map (renD o) ++ L.drop k.1)), (8, .box 25 true [.sr 20 T88 0 o.length]), (20, .arr 88 T88 ((o.take i).map (nodeD f o) ++ List.replicate (o.length - i) (0, []))), (5, .box 228 false [.mp 13]), (2, .box 25 true [.p T23 f]), (101, .arr 3 T3 o), (13, .mapo T3 T3 (mOf o)), (4, .box 25 true [.raw (.slice none 0 0)])]⟩) (fun k => L.length - k.1) ⟨0, by omega⟩ (ent_match [(51, .nm 51), (8, .nm 8), (20, .nm 20), (5, .nm 5), (2, .nm 2), (101, .nm 101), (13, .nm 13), (4, .nm 4)] rfl rfl ?_ ?_) (fun k => ?_)
             ·first | exact eN | refine eM ?_
             ·first | exact eN | refine eM ?_
             ·obtain ⟨k, hk⟩ := k
              repeat' (first | exact trivial | refine eS rfl ?_ | refine ev_out_inv ?_ | refine rX [0, 1, 2, 4, 5, 6, 7, 8, 9, 10, 11, 12, 22, 23, 24, 25, 38, 39, 40] hc ?_ ?_ | (refine rC (fun hcond => ?_) (fun hcond => ?_) <;> try (cases hcond; done)))
              ·exact eV
              ·exact eV
              ·have hkL : k < L.length := by exact eV
               have e := map_part (renD o) (fun b => b) L (0, 0) hkL (renD o)
               refine ⟨⟨k + 1, by omega⟩, by simp only; omega, ent_match [(51, .nm 51), (8, .nm 8), (20, .nm 20), (5, .nm 5), (2, .nm 2), (101, .nm 101), (13, .nm 13), (4, .nm 4)] rfl rfl ?_ ?_⟩
               ·first | exact eN | refine eM ?_
                rw [e.2]
                rw [← e.1]
                unfold renD
                rw [← idxZ_eq]
               ·first | exact eN | refine eM ?_
              ·exact ⟨hn, by exact eV⟩
              ·exact eV
              ·have hkL : L.take k = L := List.take_of_length_le (by exact eV)
               have hdL : L.drop k = [] := List.drop_eq_nil_of_le (by exact eV)
               refine ⟨⟨i + 1, by omega⟩, by simp only; omega, ent_match [(8, .nm 8), (20, .nm 20), (5, .nm 5), (2, .nm 2), (101, .nm 101), (13, .nm 13), (4, .nm 4)] rfl rfl ?_ ?_⟩
               ·first | exact eN | refine eM ?_
                rw [hkL, hdL, List.append_nil]
                have e := fill_step (nodeD f o) o 0 (0, []) hio
                rw [hnn, hnode] at e
                rw [← e, hfx, List.take_of_length_le (by simp : (L.map (renD o)).length ≤ L.length)]
               ·first | exact eN | refine eM ?_
      ·have hk : o.take i = o := List.take_of_length_le (by exact eV)
       have hz : o.length - i = 0 := by exact eV
       rw [hk, hz]
       exact ev_fin hc [.cell 4 25] rfl (.inl rfl) (by simp) (by simp only [List.replicate_zero, List.append_nil]; first | exact eR | refine eRM ?_; exact List.take_of_length_le (by rw [List.length_map]; exact eV))
def subS : Spec := canonicalS
theorem sub_ok : FnOk Tryz.prog 90 canonicalS := by
 refine fn_ok Tryz.func90 (by kernel_rfl) rfl Tryz.ntmps90 (by decide) (by kernel_rfl) (tyTab_ok [(124, canonicalS)]) (fns_cons canonical_ok fns_nil) ?_
 rintro w0 O0 ⟨f, root, u⟩ hc - hp
 simp only [canonicalS, entEnv]
 repeat' (first | exact trivial | refine eS rfl ?_ | refine ev_out_inv ?_ | refine rX [0, 1, 2, 4] hc ?_ ?_ | (refine rC (fun hcond => ?_) (fun hcond => ?_) <;> try (cases hcond; done)))
 ·exact hp
 ·exact ev_fin hc [.cell 4 25] rfl (.inl rfl) (by simp) (by first | exact eR | refine eRM ?_)
end
end Go.Proofs.YtebfihindnhccaaGreat.Fw
