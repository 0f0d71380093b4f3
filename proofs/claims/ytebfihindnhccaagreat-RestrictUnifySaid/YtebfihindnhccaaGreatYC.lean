/- Contracts of the program's and the reference's functions, and the plain laws of what they compute: P1 P9 R08a P3 P4 P5 P2 P7 W1 W2 W3 W4 D2 D3 W5 U1 U2 U3 U4 U5 U6 U7. -/
/- Functions of restrict: part, at its three closures. -/
import Derived.Test.YtebfihindnhccaaGreatYB
import Derived.Test.YtebfihindnhccaaGreatZJ
import Derived.Test.YtebfihindnhccaaGreatZI
set_option linter.unusedVariables false
set_option linter.unusedSimpArgs false
namespace Go.Proofs.YtebfihindnhccaaGreat.Fw
open Go
attribute [local irreducible] Ev
attribute [local go_sem] cx_tb entEnv List.toList_toArray evSeq evG evK vcK guardOf guardT guardB_true guardB_false step1 step0 stepQ takesIn namesParts namesOf namesStore frzAll frz frz1 fixN frzEnv frzObjs drpEnv drpObjs AV.frz AV.frzs AV.drp AV.drps AV.names AV.namess aq qmap qPick qAlloc qBox qBuild qBuildSlice qBuildSlice2 qLoad qLoadB qLoadB2 qLoadE qLoadE2 qLoadE3 qFieldI qOff qPart qField qIndexA qIndex qIndexS qNil qBin qUn qConv qMake qMake2 qSlice qExtract qLen qAppend qAppend2 qAppend3 qMin qMax qCall qCall2 qCall3 qBuiltin qCallee aloud lStoreD lStore lStoreB lStoreB2 lStoreE lStoreE3 lStoreE4 lCallee lBuiltin lAppend lAppend2 lAppend3 lAppend4 opv lk constAV optAV sliceQ bin binI binS binB boolT zf1 zfs pfs AV.cells nthOff loadB offB storeB notAg fitsT fitsO Ty.cell1 fieldOk partsT partsAg argsT asT asT1 asTs pairO srT castTo_self getF setF getP setP offP offF fldT rvAV rvObj rvAVs rvObjs resAV RV.flat Ty.flat Ty.size St.add upd del fresh Value.oneCell' refZ Ty.dflt sub_all sub_one sub_take sub_end List.take_succ_cons List.take_zero List.length_cons cast0 castS sub_app take_app sub_app1 take_app1 take_one1 natC zero_le_natC i64_min i64_max u64_min u64_max u8_min u8_max inK_i64 inK_u64 inK_u8 Option.map_some Option.map_none Option.bind_some Option.getD_some Option.getD_none Option.isNone_none Option.isNone_some Bool.and_true Bool.true_and Bool.and_false Bool.false_and Bool.not_true Bool.not_false if_true if_false List.length_cons List.length_nil and_true true_and and_self List.all_cons List.all_nil List.append_nil List.nil_append List.cons_append List.getElem?_cons_zero List.getElem?_cons_succ List.getElem?_nil List.map_cons List.map_nil List.set_cons_zero List.set_cons_succ List.isEmpty_nil List.isEmpty_cons decide_true decide_false beq_self_eq_true bne_self_eq_false Nat.zero_add Nat.add_zero Nat.sub_zero Int.toNat_natCast Int.toNat_zero Int.toNat_one List.take_length List.length_append List.length_singleton true_or or_true or_self false_or or_false Ty.agg.injEq Ty.slice.injEq Ty.prod.injEq Ty.int.injEq Option.some.injEq beq_iff_eq evM evMG evMQ opM isPick viewE viewS viewG opTs opTmp consE guardM guardM1 guardM2 sideM sideM2 pickM pickM2 sufB chEq_nil chEq_nc chEq_cn chEq_cons memB dstOf Op.operands Call.operands List.filterMap_cons List.filterMap_nil List.append_eq Bool.cond_false_right Bool.cond_true_left cond_true cond_false implies_true decide_eq_true_eq beq_true beq_false Bool.or_true Bool.or_false Bool.true_or Bool.false_or Option.isSome_some fieldV namesAg namesAgs capNs qClo qClo2 qMakeMap qMakeMap2 qMakeMap3 qLook qLook2 qLook3 qLook4 keyT keyP eqT inB lMapUp lMapUp2 lMapUp3 namesMap argEnv cm_tb List.drop_zero pruneR prune rem1 afterM addDst fgtEnv AV.fgt AV.fgts Obj.fgt restObjs handed memB calleeOf opvs matchArgs matchArg List.any_cons List.any_nil evF evFO evFQ evFK addQ frOk qs List.flatMap_cons List.flatMap_nil List.cons_append tn appN fgtEN List.take_succ_cons List.drop_succ_cons isYl parEnv rangeSt cY_tb marked_tb renOk renIn matchObjs matchEnv matchE matchAV matchAVs matchF matchO pureT
attribute [local go_sem] ty1 ty2 ty3 ty4 ty5 ty9 ty12 ty21 ty22 ty23 ty24 ty25 ty26 ty27 ty28 ty29 ty30 ty31 ty32 ty34 ty35 ty36 ty37 ty38 ty39 ty40 ty41 ty42 ty43 ty44 ty45 ty46 ty47 ty48 ty49 ty50 ty51 ty52 ty53 ty54 ty55 ty56 ty57 ty58 ty59 ty60 ty61 ty62 ty63 ty64 ty65 ty66 ty67 ty68 ty69 ty70 ty71 ty72 ty73 ty74 ty75 ty76 ty77 ty78 ty79 ty81 ty82 ty83 ty84 ty85 ty86 ty87 ty88 ty89 ty90 ty91 ty92 ty93 ty94 ty95 ty96 ty97 ty98 ty99 ty100 ty102 ty103 ty104 ty105 ty106 ty107 ty108 ty110 ty112 ty113 ty114 ty115 ty116 ty117 ty118 ty119 ty120 ty121 ty122 ty123 ty124 ty125 ty126 ty127 ty128 ty129 ty130 ty131 ty132 ty133 ty134 ty135 ty137 ty138 ty140 ty141 ty142 ty143 ty144 ty145 ty146 ty147 ty148 ty150 ty151 ty152 ty153 ty154 ty155 ty156 ty157 ty158 ty159 ty160 ty161 ty162 ty163 ty165 ty166 ty167 ty168 ty169 ty170 ty171 ty172 ty173 ty174 ty175 ty176 ty177 ty178 ty179 ty180 ty181 ty182 ty183 ty184 ty185 ty187 ty188 ty189 ty190 ty191 ty192 ty193 ty194 ty195 ty196 ty198 ty199 ty200 ty201 ty202 ty203 ty204 ty205 ty206 ty207 ty208 ty209 ty210 ty211 ty212 ty213 ty214 ty216 ty217 ty218 ty219 ty220 ty221 ty222 ty223 ty224 ty225 ty226 ty227 ty228 ty229 ty230 ty231 ty232 ty233 ty234 ty235 ty236 ty237 ty239 ty240 ty241 ty242 ty243 ty244 ty245 ty246 ty247 ty248 ty249 ty250 ty251 ty252 ty253 ty254 ty255 ty256 ty257 ty258 ty259 ty260 ty262 ty263 ty264 ty265 ty266 ty267 ty268 ty269 ty270 ty271 ty272 ty273 ty274 ty275 ty276 ty277 ty283 ty286 ty287
set_option maxRecDepth 100000
set_option maxHeartbeats 4000000
section
attribute [local go_sem] subS canonicalS
def partN (acc : Int → Int × Int → Bool) (f : List GNode) (i : Nat) : GNode := ((f.getD i (0, [])).1, (f.getD i (0, [])).2.filter (acc (i : Int)))
def partL (acc : Int → Int × Int → Bool) (f : List GNode) (i : Nat) : List GNode := (List.range i).map (partN acc f)
def partF (acc : Int → Int × Int → Bool) (f : List GNode) : List GNode := canonicalF (partL acc f f.length) 0
theorem partL_len (acc : Int → Int × Int → Bool) (f : List GNode) (i : Nat) : (partL acc f i).length = i := by simp [partL]
theorem partL_succ (acc : Int → Int × Int → Bool) (f : List GNode) (i : Nat) : partL acc f (i + 1) = partL acc f i ++ [partN acc f i] := by simp [partL, List.range_succ]
theorem srtA_iff (l : List (Int × Int)) : SrtA l ↔ l.Pairwise (fun a b => a.1 < b.1) := by
 constructor
 ·intro h
  rw [List.pairwise_iff_getElem]
  have key : ∀ d i, i + d + 1 < l.length → (l.getD i (0, 0)).1 < (l.getD (i + d + 1) (0, 0)).1 := by
   intro d
   induction d with
   | zero => intro i hi; exact h i hi
   | succ d ih =>
    intro i hi
    have h1 := ih i (by omega)
    have h2 := h (i + d + 1) (by omega)
    have : i + (d + 1) + 1 = i + d + 1 + 1 := by omega
    rw [this]
    omega
  intro i j hi hj hij
  have h1 := key (j - i - 1) i (by omega)
  rw [show i + (j - i - 1) + 1 = j by omega] at h1
  simpa [List.getD_eq_getElem?_getD, hi, hj] using h1
 ·intro h i hi
  rw [List.pairwise_iff_getElem] at h
  have := h i (i + 1) (by omega) hi (by omega)
  simpa [List.getD_eq_getElem?_getD, hi, show i < l.length by omega] using this
theorem srtA_filter {l : List (Int × Int)} (h : SrtA l) (p : Int × Int → Bool) : SrtA (l.filter p) := by
 rw [srtA_iff] at h ⊢
 exact h.sublist List.filter_sublist
theorem part_good {f : List GNode} (hf : GoodF f) (hs : SrtF f) (acc : Int → Int × Int → Bool) : GoodF (partL acc f f.length) ∧ SrtF (partL acc f f.length) := by
 have hget : ∀ i, i < f.length → f.getD i (0, []) ∈ f := fun i hi => mem_of_take_succ f (0, []) hi
 refine ⟨⟨by rw [partL_len]; exact hf.1, fun x hx => ?_⟩, fun x hx => ?_⟩
 ·obtain ⟨i, hi, rfl⟩ := List.mem_map.1 hx
  have hi : i < f.length := List.mem_range.1 hi
  obtain ⟨h1, h2⟩ := hf.2 _ (hget i hi)
  rw [partL_len]
  exact ⟨Nat.le_trans (List.length_filter_le _ _) h1, fun a ha => h2 a (List.mem_filter.1 ha).1⟩
 ·obtain ⟨i, hi, rfl⟩ := List.mem_map.1 hx
  have hi : i < f.length := List.mem_range.1 hi
  obtain ⟨h1, h2⟩ := hs _ (hget i hi)
  exact ⟨srtA_filter h1 _, Nat.le_trans (List.length_filter_le _ _) h2⟩
theorem filter_snoc (p : Int × Int → Bool) (l : List (Int × Int)) {k : Nat} (h : k < l.length) : (l.take (k + 1)).filter p = (l.take k).filter p ++ (if p (l.getD k (0, 0)) then [l.getD k (0, 0)] else []) := by
 rw [take_snoc l (0, 0) h, List.filter_append]
 congr 1
 rw [List.filter_cons, List.filter_nil]
def accD (l : List (Int × Bool)) (_ : Int) (a : Int × Int) : Bool := !((mfind T3 .bool a.1 l).getD false)
theorem dropC_ok (l : List (Int × Bool)) (n : Int) (a : Int × Int) : CallM Tryz.prog 95 [.p T3 n, .p T108 a, .bp 1 [] 0] [(1, .box 132 false [.mp 3]), (3, .mapo T3 .bool l)] [1, 3] (fun res objs' => res = .p .bool (accD l n a) ∧ objs' = [(1, .box 132 false [.mp 3]), (3, .mapo T3 .bool l)]) := by
 refine fnM_ok Tryz.func95 (by kernel_rfl) rfl Tryz.ntmps95 (by simp only [List.length_cons, List.length_nil]; omega) (by kernel_rfl) rfl rfl (tyTab_ok []) fns_nil ?_
 intro w0 K O0 ρ0 hc hok1 hok2
 simp only [argEnv]
 repeat' (first | exact trivial | refine eS rfl ?_ | refine ev_out_inv ?_ | refine rX [1, 2, 4, 5] hc ?_ ?_ | (refine rC (fun hcond => ?_) (fun hcond => ?_) <;> try (cases hcond; done)))
 refine Ev.ent (σ' := ⟨[(5, .p .bool (accD l n a))], [(1, .box 132 false [.mp 3]), (3, .mapo T3 .bool l)]⟩) ?_ (ent_match [(1, .nm 1), (3, .nm 3)] rfl rfl ?_ ?_)
 ·exact ev_finM hc [.tmp 5] rfl (.inl rfl) (.p .bool (accD l n a)) eT ⟨rfl, rfl⟩
 ·first | exact eN | refine eM ?_
 ·first | exact eN | refine eM ?_
  rfl
theorem partD_ok (f : List GNode) (hf : GoodF f) (hs : SrtF f) (h0 : 0 < f.length) (l : List (Int × Bool)) : CallM Tryz.prog 94 [.p T25 f, .clo 95 [1]] [(1, .box 132 false [.mp 3]), (3, .mapo T3 .bool l)] [1, 3] (fun res _ => res = .p T25 (partF (accD l) f)) := by
 refine fnM_ok Tryz.func94 (by kernel_rfl) rfl Tryz.ntmps94 (by simp only [List.length_cons, List.length_nil]; omega) (by kernel_rfl) rfl rfl (tyTab_ok [(90, subS)]) (fns_cons sub_ok fns_nil) ?_
 intro w0 K O0 ρ0 hc hok1 hok2
 simp only [argEnv]
 have hfl := hf.1
 repeat' (first | exact trivial | refine eS rfl ?_ | refine ev_out_inv ?_ | refine rX [0, 1, 2, 4, 5, 6, 7, 8, 10, 12, 13, 14, 15, 23, 24, 25, 26, 32] hc ?_ ?_ | (refine rC (fun hcond => ?_) (fun hcond => ?_) <;> try (cases hcond; done)))
 refine ev_loop (ι := {i : Nat // i ≤ f.length}) (fun i => ⟨[(1, .clo 95 [1]), (2, .bp 2 [] 0), (4, .bp 4 [] 0), (5, .bp 5 [] 0), (12, .p T23 f), (13, .p (.int .i64) (f.length : Int)), (14, .p (.int .i64) (i.1 : Int))], [(5, .box 25 true [.sr 44 T88 0 i.1]), (4, .box 25 true [.raw (.slice none 0 0)]), (2, .box 25 true [.p T23 f]), (44, .arr 88 T88 (partL (accD l) f i.1)), (1, .box 132 false [.mp 3]), (3, .mapo T3 .bool l)]⟩) (fun i => f.length - i.1) ⟨0, by omega⟩ (ent_match [(5, .nm 5), (4, .nm 4), (2, .nm 2), (44, .nil), (1, .nm 1), (3, .nm 3)] rfl rfl ?_ ?_) (fun i => ?_)
 ·first | exact eN | refine eM ?_
  rfl
 ·first | exact eN | refine eM ?_
 ·obtain ⟨i, hi⟩ := i
  repeat' (first | exact trivial | refine eS rfl ?_ | refine ev_out_inv ?_ | refine rX [0, 1, 2, 4, 5, 6, 7, 8, 10, 12, 13, 14, 15, 23, 24, 25, 26, 32] hc ?_ ?_ | (refine rC (fun hcond => ?_) (fun hcond => ?_) <;> try (cases hcond; done)))
  ·exact eV
  ·have hif : i < f.length := by exact eV
   have hx : (f.getD i (0, [])).2.length ≤ 100000 := (hf.2 _ (mem_of_take_succ f (0, []) hif)).1
   have hpn : partN (accD l) f i = ((f.getD i (0, [])).1, (f.getD i (0, [])).2.filter ((accD l) (i : Int))) := rfl
   generalize hgx : f.getD i (0, []) = x at *
   obtain ⟨xt, L⟩ := x
   simp only at hx hpn
   refine ev_loop (ι := {k : Nat // k ≤ L.length}) (fun k => ⟨[(1, .clo 95 [1]), (2, .bp 2 [] 0), (4, .bp 4 [] 0), (5, .bp 5 [] 0), (6, .p (.int .i64) (i : Int)), (8, .bp 8 [] 0), (12, .p T23 f), (13, .p (.int .i64) (f.length : Int)), (14, .p (.int .i64) (i : Int)), (23, .p T86 L), (24, .p (.int .i64) (L.length : Int)), (25, .p (.int .i64) (k.1 : Int))], [(8, .box 88 true [.p T3 xt, .sr 37 T108 0 ((L.take k.1).filter ((accD l) (i : Int))).length]), (37, .arr 108 T108 ((L.take k.1).filter ((accD l) (i : Int)))), (5, .box 25 true [.sr 44 T88 0 i]), (4, .box 25 true [.raw (.slice none 0 0)]), (2, .box 25 true [.p T23 f]), (44, .arr 88 T88 (partL (accD l) f i)), (1, .box 132 false [.mp 3]), (3, .mapo T3 .bool l)]⟩) (fun k => L.length - k.1) ⟨0, by omega⟩ (ent_match [(8, .nm 8), (37, .nil), (5, .nm 5), (4, .nm 4), (2, .nm 2), (44, .nm 44), (1, .nm 1), (3, .nm 3)] rfl rfl ?_ ?_) (fun k => ?_)
   ·first | exact eN | refine eM ?_
    exact ⟨rfl, rfl⟩
   ·first | exact eN | refine eM ?_
   ·obtain ⟨k, hk⟩ := k
    repeat' (first | exact trivial | refine eS rfl ?_ | refine ev_out_inv ?_ | refine rX [0, 1, 2, 4, 5, 6, 7, 8, 10, 12, 13, 14, 15, 23, 24, 25, 26, 32] hc ?_ ?_ | (refine rC (fun hcond => ?_) (fun hcond => ?_) <;> try (cases hcond; done)))
    ·exact eV
    ·have hkL : k < L.length := by exact eV
     have hlf := List.length_filter_le ((accD l) (i : Int)) (L.take k)
     have hlt := List.length_take_le k L
     have hsn := filter_snoc ((accD l) (i : Int)) L hkL
     refine cP 3 hc ?_ ?_
     ·trivial
     ·refine rM hc (dropC_ok l (i : Int) (L.getD k (0, 0))) [(1, .nm 1), (3, .nm 3)] [] ?_ ?_ ?_
      ·first | exact eN | refine eM ?_
      ·first | exact eN | refine eM ?_
      ·rintro _ _ ⟨rfl, rfl⟩
       refine ⟨[(1, .nm 1), (3, .nm 3)], .p .bool ((accD l) (i : Int) (L.getD k (0, 0))), [(1, .box 132 false [.mp 3]), (3, .mapo T3 .bool l)], rfl, rfl, ?_, ?_, rfl, rfl, evL_end ?_⟩
       ·first | exact eN | refine eM ?_
       ·first | exact eN | refine eM ?_
       ·generalize hac : (accD l) (i : Int) (L.getD k (0, 0)) = ac at *
        repeat' (first | exact trivial | refine eS rfl ?_ | refine ev_out_inv ?_ | refine rX [0, 1, 2, 4, 5, 6, 7, 8, 10, 12, 13, 14, 15, 23, 24, 25, 26, 32] hc ?_ ?_ | (refine rC (fun hcond => ?_) (fun hcond => ?_) <;> try (cases hcond; done)))
        ·simp only [maxN]
         omega
        ·exact eV
        ·have hcond : ac = true := hcond
         subst hcond
         rw [if_pos rfl] at hsn
         refine ⟨⟨k + 1, by omega⟩, by simp only; omega, ent_match [(8, .nm 8), (37, .nm 37), (5, .nm 5), (4, .nm 4), (2, .nm 2), (44, .nm 44), (1, .nm 1), (3, .nm 3)] rfl rfl ?_ ?_⟩
         ·simp only [hsn]
          first | exact eN | refine eM ?_
         ·first | exact eN | refine eM ?_
        ·exact eV
        ·have hcond : ac = false := hcond
         subst hcond
         rw [if_neg (by simp)] at hsn
         rw [List.append_nil] at hsn
         refine ⟨⟨k + 1, by omega⟩, by simp only; omega, ent_match [(8, .nm 8), (37, .nm 37), (5, .nm 5), (4, .nm 4), (2, .nm 2), (44, .nm 44), (1, .nm 1), (3, .nm 3)] rfl rfl ?_ ?_⟩
         ·simp only [hsn]
          first | exact eN | refine eM ?_
         ·first | exact eN | refine eM ?_
    ·simp only [maxN]; omega
    ·exact eV
    ·have hkL : L.take k = L := List.take_of_length_le (by exact eV)
     rw [hkL]
     refine ⟨⟨i + 1, by omega⟩, by simp only; omega, ent_match [(5, .nm 5), (4, .nm 4), (2, .nm 2), (44, .nm 44), (1, .nm 1), (3, .nm 3)] rfl rfl ?_ ?_⟩
     ·simp only [partL_succ, hpn]
      first | exact eN | refine eM ?_
      rw [List.take_of_length_le (Nat.le_of_eq (partL_len _ f i))]
     ·first | exact eN | refine eM ?_
  ·have hif : i = f.length := by exact eV
   subst hif
   obtain ⟨hg1, hg2⟩ := part_good hf hs (accD l)
   have hpl := partL_len (accD l) f f.length
   have hpf : partF (accD l) f = canonicalF (partL (accD l) f f.length) 0 := rfl
   refine frzE [44] ?_
   have htl : (partL (accD l) f f.length).take f.length = partL (accD l) f f.length := List.take_of_length_le (Nat.le_of_eq hpl)
   rw [hpf]
   rw [htl]
   generalize partL (accD l) f f.length = g at *
   repeat' (first | exact trivial | refine eS rfl ?_ | refine ev_out_inv ?_ | refine rX [0, 1, 2, 4, 5, 6, 7, 8, 10, 12, 13, 14, 15, 23, 24, 25, 26, 32] hc ?_ ?_ | (refine rC (fun hcond => ?_) (fun hcond => ?_) <;> try (cases hcond; done)))
   ·exact ⟨hg1, hg2, by exact eV⟩
   ·exact ev_finM hc [.cell 4 25] rfl (.inl rfl) (.p T25 (canonicalF g 0)) eT rfl
def goneF (l : List Int) : List (Int × Bool) := l.foldl (fun m x => mput T3 .bool x true m) []
def pdropF (f : List GNode) (l : List Int) : List GNode := partF (accD (goneF l)) f
def pdropS : Spec := { ins := [T25, T40], pre := fun (f, l, _) => GoodF f ∧ SrtF f ∧ 0 < List.length f ∧ List.length l ≤ 100000, out := fun (f, l, _) => [.p T25 (pdropF f l)] }
theorem pdrop_ok : FnOk Tryz.prog 51 pdropS := by
 refine fn_ok Tryz.func51 (by kernel_rfl) rfl Tryz.ntmps51 (by decide) (by kernel_rfl) (tyTab_ok []) fns_nil ?_
 rintro w0 O0 ⟨f, l, u⟩ hc - ⟨hf, hs, h0, hl⟩
 simp only [pdropS, entEnv]
 repeat' (first | exact trivial | refine eS rfl ?_ | refine ev_out_inv ?_ | refine rX [0, 1, 2, 4, 5, 7, 9, 10, 11, 12] hc ?_ ?_ | (refine rC (fun hcond => ?_) (fun hcond => ?_) <;> try (cases hcond; done)))
 refine ev_loop (ι := {i : Nat // i ≤ l.length}) (fun i => ⟨[(2, .bp 2 [] 0), (4, .bp 4 [] 0), (5, .bp 5 [] 0), (9, .p T40 l), (10, .p (.int .i64) (l.length : Int)), (11, .p (.int .i64) (i.1 : Int))], [(4, .box 25 true [.raw (.slice none 0 0)]), (2, .box 25 true [.p T23 f]), (5, .box 132 false [.mp 8]), (8, .mapo T3 .bool (goneF (l.take i.1)))]⟩) (fun i => l.length - i.1) ⟨0, by omega⟩ (ent_match [(4, .nm 4), (2, .nm 2), (5, .nm 5), (8, .nm 8)] rfl rfl ?_ ?_) (fun i => ?_)
 ·first | exact eN | refine eM ?_
  rfl
 ·first | exact eN | refine eM ?_
 ·obtain ⟨i, hi⟩ := i
  have hsn := fun h : i < l.length => fold_take (fun m x => mput T3 .bool x true m) l (0 : Int) [] h
  repeat' (first | exact trivial | refine eS rfl ?_ | refine ev_out_inv ?_ | refine rX [0, 1, 2, 4, 5, 7, 9, 10, 11, 12] hc ?_ ?_ | (refine rC (fun hcond => ?_) (fun hcond => ?_) <;> try (cases hcond; done)))
  ·exact eV
  ·exact eV
  ·have hil : i < l.length := by exact eV
   refine ⟨⟨i + 1, by omega⟩, by simp only; omega, ent_match [(4, .nm 4), (2, .nm 2), (5, .nm 5), (8, .nm 8)] rfl rfl ?_ ?_⟩
   ·first | exact eN | refine eM ?_
    exact (hsn hil).symm
   ·first | exact eN | refine eM ?_
  ·have hk : l.take i = l := List.take_of_length_le (by exact eV)
   rw [hk]
   refine cP 2 hc ?_ ?_
   ·trivial
   ·refine rM hc (partD_ok f hf hs h0 (goneF l)) [(1, .nm 5), (3, .nm 8)] [5, 8] ?_ ?_ ?_
    ·first | exact eN | refine eM ?_
    ·first | exact eN | refine eM ?_
    ·rintro _ _ rfl
     refine ⟨[], .p T25 (pdropF f l), [], rfl, rfl, trivial, ?_, rfl, rfl, ?_⟩
     ·unfold pdropF
      first | exact eN | refine eM ?_
     ·refine rL [4] hc ?_ ?_
      ·trivial
      ·repeat' (first | exact trivial | refine eS rfl ?_ | refine ev_out_inv ?_ | refine rX [0, 1, 2, 4, 5, 7, 9, 10, 11, 12] hc ?_ ?_ | (refine rC (fun hcond => ?_) (fun hcond => ?_) <;> try (cases hcond; done)))
       exact ev_fin hc [.cell 4 25] rfl (.inl rfl) (by simp) (by first | exact eR | refine eRM ?_)
end
/- What a canonical feature structure is: its arcs ascend. -/
section
theorem cmpL_cons {x y : Int} {xs ys : List Int} (h : cmpL (x :: xs) (y :: ys) = 0) : x = y ∧ cmpL xs ys = 0 := by
 simp only [cmpL] at h
 split at h
 ·cases h
 ·split at h
  ·cases h
  ·exact ⟨by omega, h⟩
theorem cmpL_pairs : ∀ {l m : List (Int × Int)} {r s : List Int}, l.length = m.length → cmpL (l.flatMap (fun a => [a.1, a.2]) ++ r) (m.flatMap (fun a => [a.1, a.2]) ++ s) = 0 → l = m ∧ cmpL r s = 0
 | [], [], _, _, _, h => ⟨rfl, by simpa using h⟩
 | [], _ :: _, _, _, hl, _ => by simp at hl
 | _ :: _, [], _, _, hl, _ => by simp at hl
 | (a1, a2) :: l, (b1, b2) :: m, r, s, hl, h => by
  have h : cmpL (a1 :: a2 :: (l.flatMap (fun a => [a.1, a.2]) ++ r)) (b1 :: b2 :: (m.flatMap (fun a => [a.1, a.2]) ++ s)) = 0 := by simpa using h
  obtain ⟨e1, h3⟩ := cmpL_cons h
  obtain ⟨e2, h4⟩ := cmpL_cons h3
  obtain ⟨e3, h5⟩ := cmpL_pairs (l := l) (m := m) (by simpa using hl) h4
  exact ⟨by rw [e1, e2, e3], h5⟩
theorem cmpL_nodes : ∀ {l m : List GNode} {r s : List Int}, l.length = m.length → cmpL (l.flatMap numN ++ r) (m.flatMap numN ++ s) = 0 → l = m ∧ cmpL r s = 0
 | [], [], _, _, _, h => ⟨rfl, by simpa using h⟩
 | [], _ :: _, _, _, hl, _ => by simp at hl
 | _ :: _, [], _, _, hl, _ => by simp at hl
 | (a1, a2) :: l, (b1, b2) :: m, r, s, hl, h => by
  have h : cmpL (a1 :: (a2.length : Int) :: (a2.flatMap (fun a => [a.1, a.2]) ++ (l.flatMap numN ++ r))) (b1 :: (b2.length : Int) :: (b2.flatMap (fun a => [a.1, a.2]) ++ (m.flatMap numN ++ s))) = 0 := by simpa [numN] using h
  obtain ⟨e1, h3⟩ := cmpL_cons h
  obtain ⟨e2, h4⟩ := cmpL_cons h3
  obtain ⟨e3, h5⟩ := cmpL_pairs (l := a2) (m := b2) (by omega) h4
  obtain ⟨e4, h6⟩ := cmpL_nodes (l := l) (m := m) (by simpa using hl) h5
  exact ⟨by rw [e1, e3, e4], h6⟩
theorem compareF_eq {a b : List GNode} (h : compareF a b = 0) : a = b := by
 unfold compareF numbersF at h
 obtain ⟨h1, h2⟩ := cmpL_cons h
 have := cmpL_nodes (l := a) (m := b) (r := []) (s := []) (by omega) (by simpa using h2)
 exact this.1
theorem cmpL_self : ∀ l : List Int, cmpL l l = 0
 | [] => rfl
 | x :: l => by simp [cmpL, cmpL_self l]
theorem compareF_self (a : List GNode) : compareF a a = 0 := cmpL_self _
/-! The sort ascends -/
theorem posF_spec (x : Int × Int) (s : List (Int × Int)) : ∀ n, (∀ j, posF x s n ≤ j → j < n → x.1 < (s.getD j (0, 0)).1) ∧ (0 < posF x s n → (s.getD (posF x s n - 1) (0, 0)).1 ≤ x.1)
 | 0 => ⟨fun j h1 h2 => by omega, fun h => by simp [posF] at h⟩
 | n + 1 => by
  obtain ⟨h1, h2⟩ := posF_spec x s n
  unfold posF
  split
  ·rename_i hc
   refine ⟨fun j g1 g2 => ?_, h2⟩
   by_cases e : j = n
   ·subst e; exact hc
   ·exact h1 j g1 (by omega)
  ·rename_i hc
   exact ⟨fun j g1 g2 => by omega, fun _ => by simp only [Nat.add_sub_cancel]; omega⟩
theorem pw_get {l : List (Int × Int)} (h : l.Pairwise (fun a b => a.1 ≤ b.1)) {i j : Nat} (hij : i ≤ j) (hj : j < l.length) : (l.getD i (0, 0)).1 ≤ (l.getD j (0, 0)).1 := by
 rcases Nat.eq_or_lt_of_le hij with rfl | hlt
 ·exact Int.le_refl _
 ·rw [List.pairwise_iff_getElem] at h
  have := h i j (by omega) hj hlt
  simpa [List.getD_eq_getElem?_getD, hj, show i < l.length by omega] using this
theorem insF_sorted {s : List (Int × Int)} (h : s.Pairwise (fun a b => a.1 ≤ b.1)) (x : Int × Int) : (insF s x).Pairwise (fun a b => a.1 ≤ b.1) := by
 obtain ⟨h1, h2⟩ := posF_spec x s s.length
 have hp := posF_le x s s.length
 unfold insF
 generalize posF x s s.length = p at *
 rw [List.pairwise_append, List.pairwise_append]
 have hlow : ∀ a ∈ s.take p, a.1 ≤ x.1 := fun a ha => by
  obtain ⟨i, hi, rfl⟩ := List.mem_iff_getElem.1 ha
  rw [List.length_take] at hi
  have h3 := pw_get h (i := i) (j := p - 1) (by omega) (by omega)
  have h4 := h2 (by omega)
  have e : (s.take p)[i].1 = (s.getD i (0, 0)).1 := by simp [List.getD_eq_getElem?_getD, show i < s.length by omega]
  rw [e]
  omega
 have hhigh : ∀ b ∈ s.drop p, x.1 ≤ b.1 := fun b hb => by
  obtain ⟨i, hi, rfl⟩ := List.mem_iff_getElem.1 hb
  rw [List.length_drop] at hi
  have h3 := h1 (p + i) (by omega) (by omega)
  have e : (s.drop p)[i].1 = (s.getD (p + i) (0, 0)).1 := by simp [List.getD_eq_getElem?_getD, show p + i < s.length by omega]
  rw [e]
  omega
 refine ⟨⟨h.sublist (List.take_sublist _ _), by simp, fun a ha b hb => ?_⟩, h.sublist (List.drop_sublist _ _), fun a ha b hb => ?_⟩
 ·have : b = x := by simpa using hb
  rw [this]
  exact hlow a ha
 ·rcases List.mem_append.1 ha with ha | ha
  ·exact Int.le_trans (hlow a ha) (hhigh b hb)
  ·have : a = x := by simpa using ha
   rw [this]
   exact hhigh b hb
theorem sortedF_sorted (l : List (Int × Int)) : (sortedF l).Pairwise (fun a b => a.1 ≤ b.1) := by
 induction l using list_snoc_ind with
 | h0 => exact List.Pairwise.nil
 | h1 l a ih => rw [sortedF_snoc]; exact insF_sorted ih a
theorem arcsG_nodup {n : Int} : ∀ {l seen : List (Int × Int)}, arcsG n seen l = 0 → (l.map (·.1)).Nodup ∧ ∀ a ∈ l, ∀ b ∈ seen, b.1 ≠ a.1
 | [], _, _ => ⟨by simp, fun a ha => by cases ha⟩
 | x :: l, seen, h => by
  simp only [arcsG] at h
  split at h
  ·cases h
  ·split at h
   ·cases h
   ·rename_i h1 h2
    obtain ⟨g1, g2⟩ := arcsG_nodup h
    have h2 : ∀ b ∈ seen, b.1 ≠ x.1 := fun b hb e => h2 (List.any_eq_true.2 ⟨b, hb, by simp [e]⟩)
    refine ⟨?_, fun a ha b hb => ?_⟩
    ·rw [List.map_cons, List.nodup_cons]
     refine ⟨fun hm => ?_, g1⟩
     obtain ⟨a, ha, e⟩ := List.mem_map.1 hm
     exact g2 a ha x (by simp) e.symm
    ·rcases List.mem_cons.1 ha with rfl | ha
     ·exact h2 b hb
     ·exact g2 a ha b (by simp [hb])
theorem formG_arcs {m : Int} : ∀ {f : List GNode}, formG m f = 0 → ∀ x ∈ f, arcsF x.2 m = 0
 | [], _, x, hx => by cases hx
 | y :: f, h, x, hx => by
  simp only [formG] at h
  split at h
  ·cases h
  ·split at h
   ·rename_i h1 h2; exact absurd h h2
   ·rename_i h1 h2
    rcases List.mem_cons.1 hx with rfl | hx
    ·exact Classical.byContradiction h2
    ·exact formG_arcs h x hx
theorem strict_of {l : List (Int × Int)} (h : l.Pairwise (fun a b => a.1 ≤ b.1)) (hn : (l.map (·.1)).Nodup) : l.Pairwise (fun a b => a.1 < b.1) := by
 rw [List.Nodup, List.pairwise_map] at hn
 refine (h.and hn).imp fun {a b} hab => ?_
 have h1 := hab.1
 have h2 : ¬ a.1 = b.1 := hab.2
 omega
theorem canonical_good {f : List GNode} (h : canonicalB f = true) : GoodF f ∧ SrtF f ∧ 0 < f.length ∧ lightF f = true := by
 unfold canonicalB at h
 simp only [Bool.and_eq_true, beq_iff_eq] at h
 obtain ⟨⟨hl, _⟩, hc, he⟩ := h
 obtain ⟨hl1, hl2⟩ := light_small hl
 have hsa : SmallA f := fun x hx => Nat.le_trans (hl2 x hx) (by omega)
 have hform : formF f = 0 := by
  unfold canonF at hc
  split at hc
  ·assumption
  ·exact hc
 obtain ⟨hg, h0⟩ := formF_good hform hsa
 have hcf : (canonF f).1 = fromF f 0 := by unfold canonF; rw [if_pos hform]
 rw [hcf] at he
 have hfe := compareF_eq he
 refine ⟨hg, fun x hx => ⟨?_, Nat.le_trans (hl2 x hx) (by omega)⟩, h0, hl⟩
 rw [← hfe] at hx
 obtain ⟨n, _, rfl⟩ := List.mem_map.1 hx
 rw [srtA_iff]
 have harcs : ((f.getD n.toNat (0, [])).2.map (·.1)).Nodup := by
  by_cases hlt : n.toNat < f.length
  ·have hm : f.getD n.toNat (0, []) ∈ f := mem_of_take_succ f (0, []) hlt
   have hfg : formG f.length f = 0 := by
    unfold formF at hform
    split at hform
    ·cases hform
    ·split at hform
     ·cases hform
     ·exact hform
   exact (arcsG_nodup (formG_arcs hfg _ hm)).1
  ·rw [List.getD_eq_getElem?_getD, List.getElem?_eq_none (by omega)]
   simp
 have hst := strict_of (sortedF_sorted (f.getD n.toNat (0, [])).2) (((sortedF_perm _).map (·.1)).nodup_iff.2 harcs)
 unfold nodeF
 simp only
 rw [List.pairwise_map]
 exact hst.imp fun hab => hab
end
/- Plain: the breadth-first search of grammarlabref08.First. -/
section
abbrev Bfs := List (List Int) × List Bool × List Int
def bfsA (n : Int) (s : Bfs) (a : Int × Int) : Bfs :=
 if s.2.1.getD a.2.toNat false = true then s else (s.1.set a.2.toNat (s.1.getD n.toNat [] ++ [a.1]), s.2.1.set a.2.toNat true, s.2.2 ++ [a.2])
def bfsN (f : List GNode) (s : Bfs) (n : Int) : Bfs := (f.getD n.toNat (0, [])).2.foldl (bfsA n) s
def bfs (f : List GNode) : Nat → Nat → Bfs → Bfs
 | 0, _, s => s
 | k + 1, i, s => if i < s.2.2.length then bfs f k (i + 1) (bfsN f s (s.2.2.getD i 0)) else s
def bfs0 (m : Nat) : Bfs := (List.replicate m [], (List.replicate m false).set 0 true, [0])
def firstF (f : List GNode) : List (List Int) := (bfs f f.length 0 (bfs0 f.length)).1
def unseen (l : List Bool) : Nat := l.countP (fun b => !b)
structure BOk (f : List GNode) (s : Bfs) : Prop where
 l1 : s.1.length = f.length
 l2 : s.2.1.length = f.length
 cnt : s.2.2.length + unseen s.2.1 ≤ f.length
 rng : ∀ x ∈ s.2.2, 0 ≤ x ∧ x < (f.length : Int)
 pl : ∀ p ∈ s.1, p.length ≤ s.2.2.length
theorem unseen_set {l : List Bool} {n : Nat} (hn : n < l.length) (h : l.getD n false = false) : unseen (l.set n true) + 1 = unseen l := by
 induction l generalizing n with
 | nil => simp at hn
 | cons x r ih =>
  cases n with
  | zero =>
   have hx : x = false := by simpa using h
   simp [unseen, List.countP_cons, hx]
  | succ n =>
   have h1 := ih (n := n) (by simpa using hn) (by simpa using h)
   simp only [unseen, List.set_cons_succ, List.countP_cons] at h1 ⊢
   omega
theorem getD_len {s : List (List Int)} {m : Nat} (h : ∀ p ∈ s, p.length ≤ m) (n : Nat) : (s.getD n []).length ≤ m := by
 by_cases hn : n < s.length
 ·rw [List.getD_eq_getElem?_getD, List.getElem?_eq_getElem hn]
  exact h _ (List.getElem_mem hn)
 ·rw [List.getD_eq_getElem?_getD, List.getElem?_eq_none (by omega)]
  simp
theorem bfsA_ok {f : List GNode} {s : Bfs} (h : BOk f s) {n : Int} {a : Int × Int} (h0 : 0 ≤ a.2) (h1 : a.2 < f.length) : BOk f (bfsA n s a) := by
 unfold bfsA
 split
 ·exact h
 ·rename_i hc
  have hc : s.2.1.getD a.2.toNat false = false := by simpa using hc
  have h2 := unseen_set (l := s.2.1) (n := a.2.toNat) (by rw [h.l2]; omega) hc
  have hcn := h.cnt
  refine ⟨by simpa using h.l1, by simpa using h.l2, ?_, fun x hx => ?_, fun p hp => ?_⟩
  ·simp only [List.length_append, List.length_singleton]; omega
  ·rcases List.mem_append.1 hx with hx | hx
   ·exact h.rng x hx
   ·have : x = a.2 := by simpa using hx
    subst this; exact ⟨h0, h1⟩
  ·simp only [List.length_append, List.length_singleton]
   rcases List.mem_or_eq_of_mem_set hp with hp | rfl
   ·exact Nat.le_succ_of_le (h.pl p hp)
   ·have := getD_len h.pl n.toNat
    simp only [List.length_append, List.length_singleton]; omega
theorem arcs_in {f : List GNode} (hf : GoodF f) {n : Int} {a : Int × Int} (ha : a ∈ (f.getD n.toNat (0, [])).2) : 0 ≤ a.2 ∧ a.2 < f.length := by
 by_cases h : n.toNat < f.length
 ·have hm : f.getD n.toNat (0, []) ∈ f := by
   rw [List.getD_eq_getElem?_getD, List.getElem?_eq_getElem h]; exact List.getElem_mem h
  exact (hf.2 _ hm).2 a ha
 ·rw [List.getD_eq_getElem?_getD, List.getElem?_eq_none (by omega)] at ha
  simp at ha
theorem bfs0_ok {f : List GNode} (h : 0 < f.length) : BOk f (bfs0 f.length) := by
 refine ⟨by simp [bfs0], by simp [bfs0], ?_, fun x hx => ?_, fun p hp => ?_⟩
 ·have h2 := unseen_set (l := List.replicate f.length false) (n := 0) (by simpa using h) (by simp [List.getD_eq_getElem?_getD, h])
  have h3 : unseen (List.replicate f.length false) = f.length := by simp [unseen, List.countP_replicate]
  simp only [bfs0, List.length_singleton]
  omega
 ·have : x = 0 := by simpa [bfs0] using hx
  subst this; omega
 ·have : p = [] := by
   have := List.eq_of_mem_replicate (by simpa [bfs0] using hp : p ∈ List.replicate f.length [])
   exact this
  subst this; simp
theorem bfsA_pre {n : Int} {s : Bfs} {a : Int × Int} {i : Nat} (h : i < s.2.2.length) : i < (bfsA n s a).2.2.length ∧ (bfsA n s a).2.2.getD i 0 = s.2.2.getD i 0 := by
 unfold bfsA
 split
 ·exact ⟨h, rfl⟩
 ·refine ⟨by simp only [List.length_append]; omega, ?_⟩
  simp only [List.getD_eq_getElem?_getD]
  rw [List.getElem?_append_left h]
theorem bfsF_pre {n : Int} {i : Nat} : ∀ {l : List (Int × Int)} {s : Bfs}, i < s.2.2.length → i < (l.foldl (bfsA n) s).2.2.length ∧ (l.foldl (bfsA n) s).2.2.getD i 0 = s.2.2.getD i 0
 | [], _, h => ⟨h, rfl⟩
 | a :: l, s, h => by
  have h1 := bfsA_pre (n := n) (a := a) h
  have h2 := bfsF_pre (n := n) (l := l) h1.1
  exact ⟨h2.1, h2.2.trans h1.2⟩
theorem bfs_end {f : List GNode} {k i : Nat} {s : Bfs} (h : s.2.2.length ≤ i) : bfs f k i s = s := by
 cases k with
 | zero => rfl
 | succ k => simp only [bfs]; rw [if_neg (by omega)]
theorem bfs_next {f : List GNode} {m i : Nat} {s : Bfs} (h : i < s.2.2.length) (hm : s.2.2.length ≤ m) : bfs f (m - i) i s = bfs f (m - (i + 1)) (i + 1) (bfsN f s (s.2.2.getD i 0)) := by
 obtain ⟨k, hk⟩ : ∃ k, m - i = k + 1 := ⟨m - i - 1, by omega⟩
 have e : m - (i + 1) = k := by omega
 rw [hk, e]
 simp only [bfs]
 rw [if_pos h]
end
/- Functions of path: Clone, firsts, First. -/
section
def cloneS : Spec := { ins := [T40], pre := fun (l, _) => List.length l ≤ 100000, out := fun (l, _) => [.own 3 T3 l] }
theorem clone_ok : FnOk Tryz.prog 150 cloneS := by
 refine fn_ok Tryz.func150 (by kernel_rfl) rfl Tryz.ntmps150 (by decide) (by kernel_rfl) (tyTab_ok []) fns_nil ?_
 rintro w0 O0 ⟨l, u⟩ hc - hl
 have hl : List.length l ≤ 100000 := hl
 simp only [cloneS, entEnv]
 repeat' (first | exact trivial | refine eS rfl ?_ | refine ev_out_inv ?_ | refine rX [0, 2, 4] hc ?_ ?_ | (refine rC (fun hcond => ?_) (fun hcond => ?_) <;> try (cases hcond; done)))
 refine cP 1 hc ?_ ?_
 ·trivial
 ·refine evL_isnil hc false rfl rfl ?_
  intro b hb
  refine rL [0, 4] hc ?_ ?_
  ·trivial
  ·repeat' (first | exact trivial | refine eS rfl ?_ | refine ev_out_inv ?_ | refine rX [0, 2, 4] hc ?_ ?_ | (refine rC (fun hcond => ?_) (fun hcond => ?_) <;> try (cases hcond; done)))
   ·have hl0 : l = [] := hb hcond
    subst hl0
    refine Ev.ent (σ' := ⟨[(2, .sr 5 T3 0 0)], [(5, .arr 3 T3 [])]⟩) ?_ (ent_match [(5, .nil)] rfl rfl ?_ ?_)
    ·exact ev_fin_own hc (.inl rfl) (rv := .tmp 2) rfl (by simp only [resIs, resV, ownOf, go_sem, Nat.reduceEqDiff, reduceCtorEq, Nat.reduceAdd, Nat.reduceSub, Nat.reduceMul, Nat.reduceLeDiff, Nat.reduceLT, Int.reduceLE, Int.reduceToNat, Int.reduceNeg, ↓reduceIte])
    ·first | exact eN | refine eM ?_
    ·first | exact eN | refine eM ?_
   ·simp only [maxN]; omega
   ·exact ev_fin_own hc (.inl rfl) (rv := .tmp 2) rfl (by simp only [resIs, resV, ownOf, go_sem, Nat.reduceEqDiff, reduceCtorEq, Nat.reduceAdd, Nat.reduceSub, Nat.reduceMul, Nat.reduceLeDiff, Nat.reduceLT, Int.reduceLE, Int.reduceToNat, Int.reduceNeg, ↓reduceIte])
/-! The plain law -/
def bst (f : List GNode) : Nat → Bfs
 | 0 => bfs0 f.length
 | i + 1 => bfsN f (bst f i) ((bst f i).2.2.getD i 0)
def nodeI (f : List GNode) (i : Nat) : Int := (bst f i).2.2.getD i 0
def pathI (f : List GNode) (i : Nat) : List Int := (bst f i).1.getD (nodeI f i).toNat []
def coll (f : List GNode) : Nat → List (List Int)
 | 0 => List.replicate f.length []
 | i + 1 => (coll f i).set (nodeI f i).toNat (pathI f i)
structure BI (f : List GNode) (s : Bfs) : Prop where
 ok : BOk f s
 mem : ∀ x, x < f.length → (s.2.1.getD x false = true ↔ (x : Int) ∈ s.2.2)
 emp : ∀ x : Nat, (x : Int) ∉ s.2.2 → s.1.getD x [] = []
theorem getD_set_ne {α : Type} (l : List α) (d v : α) {i j : Nat} (h : i ≠ j) : (l.set i v).getD j d = l.getD j d := by
 simp only [List.getD_eq_getElem?_getD]; rw [List.getElem?_set_ne h]
theorem getD_set_self {α : Type} (l : List α) (d v : α) {i : Nat} (h : i < l.length) : (l.set i v).getD i d = v := by
 simp only [List.getD_eq_getElem?_getD]; rw [List.getElem?_set_self h]; rfl
theorem bfsA_BI {f : List GNode} {s : Bfs} (h : BI f s) {n : Int} {a : Int × Int} (h0 : 0 ≤ a.2) (h1 : a.2 < f.length) :
  BI f (bfsA n s a) ∧ s.2.2 <+: (bfsA n s a).2.2 ∧ ∀ x ∈ s.2.2, (bfsA n s a).1.getD x.toNat [] = s.1.getD x.toNat [] := by
 have hok := bfsA_ok (n := n) h.ok h0 h1
 have hl1 := h.ok.l1
 have hl2 := h.ok.l2
 unfold bfsA at hok ⊢
 split at hok
 ·rename_i hc
  rw [if_pos hc]
  exact ⟨h, List.prefix_refl _, fun _ _ => rfl⟩
 ·rename_i hc
  rw [if_neg hc]
  have hna : a.2 ∉ s.2.2 := fun hm => hc ((h.mem a.2.toNat (by omega)).2 (by rw [show ((a.2.toNat : Nat) : Int) = a.2 by omega]; exact hm))
  refine ⟨⟨hok, fun x hx => ?_, fun x hx => ?_⟩, List.prefix_append _ _, fun x hx => ?_⟩
  ·by_cases e : a.2.toNat = x
   ·subst e
    simp only
    rw [getD_set_self _ _ _ (by omega)]
    constructor
    ·intro _; rw [show ((a.2.toNat : Nat) : Int) = a.2 by omega]; simp
    ·intro _; rfl
   ·simp only
    rw [getD_set_ne _ _ _ e, h.mem x hx]
    have : ¬ (x : Int) = a.2 := by omega
    simp [this]
  ·have hx1 : (x : Int) ∉ s.2.2 ∧ ¬ (x : Int) = a.2 := by simpa using hx
   simp only
   rw [getD_set_ne _ _ _ (by omega)]
   exact h.emp x hx1.1
  ·have hr := h.ok.rng x hx
   have : ¬ a.2 = x := fun e => hna (by rw [e]; exact hx)
   simp only
   rw [getD_set_ne _ _ _ (by omega)]
theorem bfsF_BI {f : List GNode} {n : Int} : ∀ {l : List (Int × Int)} {s : Bfs}, (∀ a ∈ l, 0 ≤ a.2 ∧ a.2 < (f.length : Int)) → BI f s →
  BI f (l.foldl (bfsA n) s) ∧ s.2.2 <+: (l.foldl (bfsA n) s).2.2 ∧ ∀ x ∈ s.2.2, (l.foldl (bfsA n) s).1.getD x.toNat [] = s.1.getD x.toNat []
 | [], _, _, h => ⟨h, List.prefix_refl _, fun _ _ => rfl⟩
 | a :: l, s, hl, h => by
  have q := hl a (by simp)
  obtain ⟨g1, g2, g3⟩ := bfsA_BI (n := n) h q.1 q.2
  obtain ⟨i1, i2, i3⟩ := bfsF_BI (n := n) (l := l) (fun b hb => hl b (by simp [hb])) g1
  exact ⟨i1, g2.trans i2, fun x hx => (i3 x (g2.subset hx)).trans (g3 x hx)⟩
theorem bfs0_BI {f : List GNode} (h : 0 < f.length) : BI f (bfs0 f.length) := by
 refine ⟨bfs0_ok h, fun x hx => ?_, fun x _ => ?_⟩
 ·by_cases e : x = 0
  ·subst e
   simp only [bfs0]
   rw [getD_set_self _ _ _ (by simpa using h)]
   simp
  ·simp only [bfs0]
   rw [getD_set_ne _ _ _ (fun e' => e e'.symm)]
   have : ¬ (x : Int) = 0 := by omega
   simp [List.getD_eq_getElem?_getD, List.getElem?_replicate, hx, this, e]
 ·simp only [bfs0, List.getD_eq_getElem?_getD, List.getElem?_replicate]
  split <;> rfl
theorem bst_BI {f : List GNode} (hf : GoodF f) (h0 : 0 < f.length) : ∀ i, BI f (bst f i)
 | 0 => bfs0_BI h0
 | i + 1 => (bfsF_BI (fun a ha => arcs_in hf ha) (bst_BI hf h0 i)).1
theorem coll_len (f : List GNode) : ∀ i, (coll f i).length = f.length
 | 0 => by simp [coll]
 | i + 1 => by simp [coll, coll_len f i]
theorem coll_get {f : List GNode} (hf : GoodF f) (h0 : 0 < f.length) : ∀ i, (∀ j, j < i → j < (bst f j).2.2.length) → ∀ x : Nat, (coll f i).getD x [] = if (x : Int) ∈ (bst f i).2.2.take i then (bst f i).1.getD x [] else []
 | 0, _, x => by
  simp only [coll, List.take_zero, List.not_mem_nil, if_false, List.getD_eq_getElem?_getD, List.getElem?_replicate]
  split <;> rfl
 | i + 1, hj, x => by
  have ih := coll_get hf h0 i (fun j hji => hj j (by omega)) x
  have hi := hj i (by omega)
  have hbi := bst_BI hf h0 i
  obtain ⟨g1, g2, g3⟩ := bfsF_BI (n := nodeI f i) (l := (f.getD (nodeI f i).toNat (0, [])).2) (fun a ha => arcs_in hf ha) hbi
  have e1 : bst f (i + 1) = (f.getD (nodeI f i).toNat (0, [])).2.foldl (bfsA (nodeI f i)) (bst f i) := rfl
  rw [← e1] at g1 g2 g3
  have htk : (bst f (i + 1)).2.2.take (i + 1) = (bst f i).2.2.take i ++ [nodeI f i] := by
   obtain ⟨t, ht⟩ := g2
   rw [← ht, List.take_append_of_le_length (by omega), take_snoc _ (0 : Int) hi]
   rfl
  have hmem : nodeI f i ∈ (bst f i).2.2 := mem_of_take_succ _ 0 hi
  have hr := hbi.ok.rng _ hmem
  rw [htk]
  simp only [coll]
  by_cases e : (nodeI f i).toNat = x
  ·subst e
   rw [getD_set_self _ _ _ (by rw [coll_len]; omega), show (((nodeI f i).toNat : Nat) : Int) = nodeI f i by omega, if_pos (by simp), g3 _ hmem]
   rfl
  ·rw [getD_set_ne _ _ _ e, ih]
   have hne : ¬ (x : Int) = nodeI f i := by omega
   by_cases hx : (x : Int) ∈ (bst f i).2.2.take i
   ·rw [if_pos hx, if_pos (by simp [hx])]
    have := g3 _ (List.mem_of_mem_take hx)
    rw [show ((x : Int)).toNat = x by omega] at this
    exact this.symm
   ·rw [if_neg hx, if_neg (by simp [hx, hne])]
theorem bst_bfs {f : List GNode} (hf : GoodF f) (h0 : 0 < f.length) : ∀ i, (∀ j, j < i → j < (bst f j).2.2.length) → bfs f (f.length - i) i (bst f i) = bfs f f.length 0 (bfs0 f.length)
 | 0, _ => rfl
 | i + 1, hj => by
  rw [← bst_bfs hf h0 i (fun j hji => hj j (by omega))]
  have hb := (bst_BI hf h0 i).ok
  have := hb.cnt
  exact (bfs_next (hj i (by omega)) (by omega)).symm
theorem coll_first {f : List GNode} (hf : GoodF f) (h0 : 0 < f.length) {n : Nat} (hj : ∀ j, j < n → j < (bst f j).2.2.length) (hn : (bst f n).2.2.length ≤ n) : coll f n = firstF f := by
 have e : firstF f = (bst f n).1 := by
  unfold firstF
  rw [← bst_bfs hf h0 n hj, bfs_end hn]
 have hb := bst_BI hf h0 n
 rw [e]
 apply List.ext_getElem
 ·rw [coll_len, hb.ok.l1]
 ·intro x h1 h2
  have hg := coll_get hf h0 n hj x
  rw [List.take_of_length_le hn] at hg
  have e1 : (coll f n).getD x [] = (coll f n)[x] := by simp [List.getD_eq_getElem?_getD, h1]
  have e2 : (bst f n).1.getD x [] = (bst f n).1[x] := by simp [List.getD_eq_getElem?_getD, h2]
  rw [← e1, ← e2, hg]
  split
  ·rfl
  ·rename_i hx; exact (hb.emp x hx).symm
end
/- Functions of path: firsts, First. -/
section
attribute [local go_sem] cloneS
theorem firsts_ok (f : List GNode) : CallM Tryz.prog 117 [.p T25 f] [] [] (fun res objs' => res = .clo 149 [1] ∧ objs' = [(1, .box 25 true [.p T23 f])]) := by
 refine fnM_ok Tryz.func117 (by kernel_rfl) rfl Tryz.ntmps117 (by simp only [List.length_cons, List.length_nil]; omega) (by kernel_rfl) rfl rfl (tyTab_ok []) fns_nil ?_
 intro w0 K O0 ρ0 hc hok1 hok2
 simp only [argEnv]
 repeat' (first | exact trivial | refine eS rfl ?_ | refine ev_out_inv ?_ | refine rX [0, 1, 2] hc ?_ ?_ | (refine rC (fun hcond => ?_) (fun hcond => ?_) <;> try (cases hcond; done)))
 exact ev_finM hc [.tmp 2] rfl (.inl rfl) (.clo 149 [1]) eT ⟨rfl, rfl⟩
def fObjs (f : List GNode) (L : Go.Loop) (tm : Array Value) (i : Nat) : List (Nat × Obj) := [(50, .box 25 true [.p T23 f]), (101, .loop L), (102, .frame tm [(3, .bp 3 [] 0)]), (3, .box 45 false [.sr 9 T40 0 f.length]), (9, .arr 40 T40 (coll f i))]
def pathsOf (s : Bfs) : List (List Int) := s.2.2.map fun n => s.1.getD n.toNat []
theorem pathsOf_len (s : Bfs) : (pathsOf s).length = s.2.2.length := by simp [pathsOf]
theorem pathsOf_get {s : Bfs} {i : Nat} (h : i < s.2.2.length) : (pathsOf s).getD i [] = s.1.getD (s.2.2.getD i 0).toNat [] := by
 simp [pathsOf, List.getD_eq_getElem?_getD, h]
theorem firsts1_ok (f : List GNode) (hf : GoodF f) (h0 : 0 < f.length) (L : Go.Loop) (tm : Array Value)
  (hY : ∀ i, i < (bst f i).2.2.length → CallY Tryz.prog 101 [.p T3 (nodeI f i), .p T40 (pathI f i)] (fObjs f L tm i) [50, 101, 102, 3] (fun res objs' => res = .p .bool true ∧ objs' = fObjs f L tm (i + 1))) :
  CallM Tryz.prog 149 [.yl 101, .bp 50 [] 0] (fObjs f L tm 0) [50, 101, 102, 3] (fun res objs' => res = .raw (.tuple #[]) ∧ ∃ N, objs' = fObjs f L tm N ∧ coll f N = firstF f) := by
 refine fnM_ok Tryz.func149 (by kernel_rfl) rfl Tryz.ntmps149 (by simp only [List.length_cons, List.length_nil]; omega) (by kernel_rfl) rfl rfl (tyTab_ok [(150, cloneS)]) (fns_cons clone_ok fns_nil) ?_
 intro w0 K O0 ρ0 hc hok1 hok2
 simp only [argEnv, fObjs]
 have hfl := hf.1
 repeat' (first | exact trivial | refine eS rfl ?_ | refine ev_out_inv ?_ | refine rX [0, 1, 3, 4, 5, 6, 8, 20, 33, 42, 43, 44, 45, 53] hc ?_ ?_ | (refine rC (fun hcond => ?_) (fun hcond => ?_) <;> try (cases hcond; done)))
 ·simp only [maxN]; omega
 ·exact eV
 ·have hbi := fun i => bst_BI hf h0 i
  have hy := hY
  clear hY
  refine ev_loop (ι := {i : Nat // ∀ j, j < i → j < (bst f j).2.2.length}) (fun i => ⟨[(0, .yl 101), (1, .bp 50 [] 0), (3, .sr 12 T4 0 (bst f i.1).2.1.length), (4, .sr 15 T3 0 (bst f i.1).2.2.length), (5, .sr 16 T40 0 (pathsOf (bst f i.1)).length), (6, .p (.int .i64) (i.1 : Int))], (12, .arr 4 T4 (bst f i.1).2.1) :: (15, .arr 3 T3 (bst f i.1).2.2) :: (16, .arr 40 T40 (pathsOf (bst f i.1))) :: fObjs f L tm i.1⟩) (fun i => f.length + 1 - i.1) ⟨0, fun j hj => by omega⟩ (ent_match [(12, .nm 12), (15, .nm 15), (16, .nm 16), (50, .nm 50), (101, .nm 101), (102, .nm 102), (3, .nm 3), (9, .nm 9)] rfl rfl ?_ ?_) (fun i => ?_)
  ·simp only [fObjs, bst, bfs0, pathsOf]
   first | exact eN | refine eM ?_
   simp [List.getD_eq_getElem?_getD, List.getElem?_replicate, h0]
  ·simp only [bst, bfs0, pathsOf, List.length_map]
   first | exact eN | refine eM ?_
   simp
  ·obtain ⟨i, hi⟩ := i
   have hib : i ≤ f.length := by
    cases i with
    | zero => omega
    | succ i =>
     have h1 := hi i (by omega)
     have h2 := (hbi i).ok.cnt
     omega
   have hb := hbi i
   have hyi := hy i
   have hnx : bst f (i + 1) = (f.getD (nodeI f i).toNat (0, [])).2.foldl (bfsA (nodeI f i)) (bst f i) := rfl
   have hnode : nodeI f i = (bst f i).2.2.getD i 0 := rfl
   have hpath : pathI f i = (bst f i).1.getD (nodeI f i).toNat [] := rfl
   generalize hs : bst f i = s at *
   have hpl := pathsOf_len s
   have hcn := hb.ok.cnt
   simp only [fObjs]
   repeat' (first | exact trivial | refine eS rfl ?_ | refine ev_out_inv ?_ | refine rX [0, 1, 3, 4, 5, 6, 8, 20, 33, 42, 43, 44, 45, 53] hc ?_ ?_ | (refine rC (fun hcond => ?_) (fun hcond => ?_) <;> try (cases hcond; done)))
   ·have hil : i < s.2.2.length := by exact eV
    refine cD 9 hc ?_ ?_
    ·exact ⟨by exact eV, by rw [hpl]; exact eV⟩
    ·rw [pathsOf_get hil, ← hnode, ← hpath]
     refine rY 101 101 hc (hyi hil) [(50, .nm 50), (101, .nm 101), (102, .nm 102), (3, .nm 3), (9, .nm 9)] [9] ?_ ?_ ?_
     ·first | exact eN | refine eM ?_
     ·simp only [fObjs]
      first | exact eN | refine eM ?_
     ·rintro _ _ ⟨rfl, rfl⟩
      refine ⟨[(50, .nm 50), (101, .nm 101), (102, .nm 102), (3, .nm 3), (9, .nm 9)], .p .bool true, fObjs f L tm (i + 1), rfl, rfl, ?_, ?_, rfl, rfl, ?_⟩
      ·simp only [fObjs]
       first | exact eN | refine eM ?_
      ·first | exact eN | refine eM ?_
      ·simp only [fObjs]
       refine rL [0, 1, 3, 4, 5, 6, 33] hc ?_ ?_
       ·trivial
       ·have hnm := mem_of_take_succ s.2.2 0 hil
        have hnr := hb.ok.rng _ hnm
        have hpre := fun l => bfsF_pre (n := nodeI f i) (i := i) (l := l) (s := s) hil
        have hLlen := arcs_len hf (nodeI f i)
        have hfold := fun l (hl : ∀ a ∈ l, 0 ≤ a.2 ∧ a.2 < (f.length : Int)) => bfsF_BI (n := nodeI f i) (l := l) hl hb
        have hLin := fun a (ha : a ∈ (f.getD (nodeI f i).toNat (0, [])).2) => arcs_in hf ha
        rw [hnode] at hnx hpre hLlen hfold hLin
        generalize hnn : s.2.2.getD i 0 = n at *
        repeat' (first | exact trivial | refine eS rfl ?_ | refine ev_out_inv ?_ | refine rX [0, 1, 3, 4, 5, 6, 8, 20, 33, 42, 43, 44, 45, 53] hc ?_ ?_ | (refine rC (fun hcond => ?_) (fun hcond => ?_) <;> try (cases hcond; done)))
        ·exact ⟨by exact eV, by rw [hnn]; exact hnr⟩
        ·simp only [hnn]
         generalize hL2 : (f.getD n.toNat (0, [])).2 = L2 at *
         have hpl := pathsOf_len s
         refine ev_loop (ι := {k : Nat // k ≤ L2.length}) (fun k => ⟨[(0, .yl 101), (1, .bp 50 [] 0), (3, .sr 12 T4 0 ((L2.take k.1).foldl (bfsA n) s).2.1.length), (4, .sr 15 T3 0 ((L2.take k.1).foldl (bfsA n) s).2.2.length), (5, .sr 16 T40 0 (pathsOf ((L2.take k.1).foldl (bfsA n) s)).length), (6, .p (.int .i64) (i : Int)), (42, .p T86 L2), (43, .p (.int .i64) (L2.length : Int)), (44, .p (.int .i64) (k.1 : Int))], (12, .arr 4 T4 ((L2.take k.1).foldl (bfsA n) s).2.1) :: (15, .arr 3 T3 ((L2.take k.1).foldl (bfsA n) s).2.2) :: (16, .arr 40 T40 (pathsOf ((L2.take k.1).foldl (bfsA n) s))) :: fObjs f L tm (i + 1)⟩) (fun k => L2.length - k.1) ⟨0, by omega⟩ (ent_match [(12, .nm 12), (15, .nm 15), (16, .nm 16), (50, .nm 50), (101, .nm 101), (102, .nm 102), (3, .nm 3), (9, .nm 9)] rfl rfl ?_ ?_) (fun k => ?_)
         ·simp only [fObjs, List.take_zero, List.foldl_nil]
          first | exact eN | refine eM ?_
         ·simp only [List.take_zero, List.foldl_nil]
          first | exact eN | refine eM ?_
         ·obtain ⟨k, hk⟩ := k
          obtain ⟨hbk, hpk2, hok2⟩ := hfold (L2.take k) (fun a ha => hLin a (List.mem_of_mem_take ha))
          have hpk := hpre (L2.take k)
          have hnext := fun (h : k < L2.length) => fold_take (bfsA n) L2 (0, 0) s h
          simp only
          generalize hsk : (L2.take k).foldl (bfsA n) s = sk at *
          have hplk := pathsOf_len sk
          have hcnk := hbk.ok.cnt
          have hto : ∀ (h : k < L2.length), 0 ≤ (L2.getD k (0, 0)).2 ∧ (L2.getD k (0, 0)).2 < (sk.2.1.length : Int) := fun h => by
           have h1 := hLin _ (mem_of_take_succ L2 (0, 0) h)
           have h2 := hbk.ok.l2
           omega
          simp only [fObjs]
          repeat' (first | exact trivial | refine eS rfl ?_ | refine ev_out_inv ?_ | refine rX [0, 1, 3, 4, 5, 6, 8, 20, 33, 42, 43, 44, 45, 53] hc ?_ ?_ | (refine rC (fun hcond => ?_) (fun hcond => ?_) <;> try (cases hcond; done)))
          ·exact eV
          ·exact hto (by exact eV)
          ·exact hto (by exact eV)
          ·simp only [maxN]; omega
          ·have hkL : k < L2.length := by exact eV
           have hst : (L2.take (k + 1)).foldl (bfsA n) s = (sk.1.set (L2.getD k (0, 0)).2.toNat (sk.1.getD n.toNat [] ++ [(L2.getD k (0, 0)).1]), sk.2.1.set (L2.getD k (0, 0)).2.toNat true, sk.2.2 ++ [(L2.getD k (0, 0)).2]) := by
            rw [hnext hkL]
            unfold bfsA
            rw [if_neg (by rw [hcond]; simp)]
           have hna : (L2.getD k (0, 0)).2 ∉ sk.2.2 := fun hm => by
            have h1 := hto hkL
            have h2 := hbk.ok.l2
            have h3 := (hbk.mem (L2.getD k (0, 0)).2.toNat (by omega)).2 (by rw [show (((L2.getD k (0, 0)).2.toNat : Nat) : Int) = (L2.getD k (0, 0)).2 by omega]; exact hm)
            rw [hcond] at h3
            cases h3
           have hget : (pathsOf sk).getD i [] = sk.1.getD n.toNat [] := by
            rw [pathsOf_get hpk.1, hpk.2]
           have hgl := getD_len hbk.ok.pl n.toNat
           have hps : pathsOf ((L2.take (k + 1)).foldl (bfsA n) s) = pathsOf sk ++ [sk.1.getD n.toNat [] ++ [(L2.getD k (0, 0)).1]] := by
            rw [hst]
            unfold pathsOf
            simp only [List.map_append, List.map_cons, List.map_nil]
            congr 1
            ·refine List.map_congr_left fun x hx => ?_
             have h1 := hbk.ok.rng x hx
             have h2 : ¬ (L2.getD k (0, 0)).2 = x := fun e => hna (by rw [e]; exact hx)
             have h3 := hto hkL
             rw [getD_set_ne _ _ _ (by omega)]
            ·have h1 := hto hkL
             have h2 := hbk.ok.l2
             have h3 := hbk.ok.l1
             rw [getD_set_self _ _ _ (by omega)]
           refine ev_mix drawsAny hc 12 [([1, 2, 3, 4, 5, 6, 7, 8], 9), ([], 10), ([0], 11)] [] (by kernel_rfl) (mxA ?_ ?_)
           ·rw [hget, hplk]
            exact ⟨Int.ofNat_lt.2 hpk.1, Nat.le_trans hgl (by omega)⟩
           ·refine mxL hc [68] ?_ ?_
            ·rw [hget]
             simp only [maxN]; omega
            ·refine mxA ?_ ?_
             ·trivial
             ·refine mxL hc [68] ?_ ?_
              ·trivial
              ·refine mxA ?_ ?_
               ·trivial
               ·refine mxL hc [16] ?_ ?_
                ·simp only [maxN]; omega
                ·refine mxE [0, 1, 3, 4, 5, 6, 8, 20, 33, 42, 43, 44, 45, 53] hc ?_ ?_ ?_
                 ·trivial
                 ·trivial
                 ·repeat' (first | exact trivial | refine eS rfl ?_ | refine ev_out_inv ?_ | refine rX [0, 1, 3, 4, 5, 6, 8, 20, 33, 42, 43, 44, 45, 53] hc ?_ ?_ | (refine rC (fun hcond => ?_) (fun hcond => ?_) <;> try (cases hcond; done)))
                  ·exact eV
                  ·refine ⟨⟨k + 1, by omega⟩, by simp only; omega, ent_match [(12, .nm 12), (15, .nm 15), (16, .nm 16), (50, .nm 50), (101, .nm 101), (102, .nm 102), (3, .nm 3), (9, .nm 9)] rfl rfl ?_ ?_⟩
                   ·simp only [hps]
                    rw [hst]
                    first | exact eN | refine eM ?_
                    rw [hget]
                   ·simp only [hps]
                    rw [hst]
                    first | exact eN | refine eM ?_
                    simp
          ·exact eV
          ·have hkL : k < L2.length := by exact eV
           have hst : (L2.take (k + 1)).foldl (bfsA n) s = sk := by
            rw [hnext hkL]
            unfold bfsA
            rw [if_pos (by rw [hcond])]
           refine ⟨⟨k + 1, by omega⟩, by simp only; omega, ent_match [(12, .nm 12), (15, .nm 15), (16, .nm 16), (50, .nm 50), (101, .nm 101), (102, .nm 102), (3, .nm 3), (9, .nm 9)] rfl rfl ?_ ?_⟩
           ·simp only
            rw [hst]
            first | exact eN | refine eM ?_
           ·simp only
            rw [hst]
            first | exact eN | refine eM ?_
          ·exact eV
          ·have hkL : L2.take k = L2 := List.take_of_length_le (by exact eV)
           rw [hkL] at hsk
           rw [hsk] at hnx
           have hil2 : i < (bst f i).2.2.length := by rw [hs]; exact hil
           refine ⟨⟨i + 1, fun j hj => (Nat.lt_succ_iff_lt_or_eq.1 hj).elim (hi j) (fun e => by rw [e]; exact hil2)⟩, by simp only; omega, ent_match [(12, .nm 12), (15, .nm 15), (16, .nm 16), (50, .nm 50), (101, .nm 101), (102, .nm 102), (3, .nm 3), (9, .nm 9)] rfl rfl ?_ ?_⟩
           ·simp only [hnx, fObjs]
            first | exact eN | refine eM ?_
           ·simp only [hnx]
            first | exact eN | refine eM ?_
   ·refine Ev.ent (σ' := ⟨[], fObjs f L tm i⟩) ?_ (ent_match [(50, .nm 50), (101, .nm 101), (102, .nm 102), (3, .nm 3), (9, .nm 9)] rfl rfl ?_ ?_)
    ·exact ev_finM hc [] rfl (.inr rfl) (.raw (.tuple #[])) rfl ⟨rfl, i, rfl, coll_first hf h0 hi (by rw [hs]; exact eV)⟩
    ·simp only [fObjs]
     first | exact eN | refine eM ?_
    ·first | exact eN | refine eM ?_
theorem pfirst_ok (f : List GNode) (hf : GoodF f) (h0 : 0 < f.length) : CallM Tryz.prog 79 [.p T25 f] [] [] (fun res objs' => res = .sr 9 T40 0 f.length ∧ objs' = [(9, .arr 40 T40 (firstF f))]) := by
 refine fnMR_ok Tryz.func79 (by kernel_rfl) rfl Tryz.ntmps79 (by simp only [List.length_cons, List.length_nil]; omega) (by kernel_rfl) rfl rfl (tyTab_ok []) fns_nil ?_
 intro w0 K O0 ρ0 hc hok1 hok2
 simp only [argEnv]
 have hfl := hf.1
 repeat' (first | exact trivial | refine eS rfl ?_ | refine ev_out_inv ?_ | refine rX [0, 1, 2, 3, 4, 5, 11, 12, 13] hc ?_ ?_ | (refine rC (fun hcond => ?_) (fun hcond => ?_) <;> try (cases hcond; done)))
 ·simp only [maxN]; omega
 ·refine cP 1 hc ?_ ?_
  ·trivial
  ·refine rM hc (firsts_ok f) [] [] ?_ ?_ ?_
   ·first | exact eN | refine eM ?_
   ·first | exact eN | refine eM ?_
   ·rintro _ _ ⟨rfl, rfl⟩
    refine ⟨[(50, .nm 1)], .clo 149 [50], [(50, .box 25 true [.p T23 f])], rfl, rfl, ?_, ?_, rfl, rfl, evL_end ?_⟩
    ·first | exact eN | refine eM ?_
    ·first | exact eN | refine eM ?_
    ·repeat' (first | exact trivial | refine eS rfl ?_ | refine ev_out_inv ?_ | refine rX [0, 1, 2, 3, 4, 5, 11, 12, 13] hc ?_ ?_ | (refine rC (fun hcond => ?_) (fun hcond => ?_) <;> try (cases hcond; done)))
     refine ev_range hc rfl rfl (by simp only [go_sem, Nat.reduceEqDiff, reduceCtorEq, Nat.reduceAdd, Nat.reduceSub, Nat.reduceMul, Nat.reduceLeDiff, Nat.reduceLT, Int.reduceLE, Int.reduceToNat, Int.reduceNeg, ↓reduceIte]; rfl) 101 103 102 rfl rfl rfl rfl ?_
     intro L tm hL1 hL2 hL3 hL4 hL5 hL6 htm
     refine ⟨_, fObjs f L tm 0, [50, 101, 102, 3], _, [(50, .nm 50), (101, .nm 101), (102, .nm 102), (3, .nm 3), (9, .nm 9)], [9], firsts1_ok f hf h0 L tm ?_, rfl, rfl, ?_, ?_, rfl, ?_⟩
     ·intro i hi
      have hb := bst_BI hf h0 i
      have hnr := hb.ok.rng (nodeI f i) (mem_of_take_succ _ 0 hi)
      have hcl := coll_len f i
      have hcs : coll f (i + 1) = (coll f i).set (nodeI f i).toNat (pathI f i) := rfl
      refine callY_ok (fr := 102) rfl rfl hL1 hL4 hL5 hL6 hL3 htm rfl (by kernel_rfl) (by simp) rfl rfl (by kernel_rfl) (by kernel_rfl) (tyTab_ok []) fns_nil ?_
      intro w1 K1 O1 ρ1 lb hc hok3 hok4 hb
      simp only [fObjs, parEnv]
      repeat' (first | exact trivial | refine eS rfl ?_ | refine ev_out_inv ?_ | refine rX [0, 1, 2, 3, 4, 5, 11, 12, 13] hc ?_ ?_ | (refine rC (fun hcond => ?_) (fun hcond => ?_) <;> try (cases hcond; done)))
      refine ⟨rfl, ?_⟩
      repeat' (first | exact trivial | refine eS rfl ?_ | refine ev_out_inv ?_ | refine rX [0, 1, 2, 3, 4, 5, 11, 12, 13] hc ?_ ?_ | (refine rC (fun hcond => ?_) (fun hcond => ?_) <;> try (cases hcond; done)))
      ·exact hnr
      ·refine Ev.ent (σ' := ⟨[], [(50, .box 25 true [.p T23 f]), (101, .loop { L with state := .busy }), (102, .frame tm [(3, .bp 3 [] 0)]), (3, .box 45 false [.sr 9 T40 0 f.length]), (9, .arr 40 T40 (coll f (i + 1)))]⟩) ?_ (ent_match [(50, .nm 50), (101, .nm 101), (102, .nm 102), (3, .nm 3), (9, .nm 9)] rfl rfl ?_ ?_)
       ·refine ev_roundN hc (yn := 101) rfl rfl (by simp) hb ⟨rfl, ?_⟩
        simp only [fObjs, go_sem, Nat.reduceEqDiff, reduceCtorEq, Nat.reduceAdd, Nat.reduceSub, Nat.reduceMul, Nat.reduceLeDiff, Nat.reduceLT, Int.reduceLE, Int.reduceToNat, Int.reduceNeg, ↓reduceIte, loop_eta hL1 hL2]
       ·rw [hcs]
        first | exact eN | refine eM ?_
       ·first | exact eN | refine eM ?_
     ·simp only [rangeSt]
      first | exact eN | refine eM ?_
     ·simp only [rangeSt, fObjs]
      first | exact eN | refine eM ?_
      rfl
     ·rintro _ _ ⟨rfl, N, rfl, hN⟩
      refine ⟨[(50, .nm 50), (101, .nm 101), (102, .nm 102), (3, .nm 3), (9, .nm 9)], fObjs f L tm N, L, rfl, rfl, ?_, rfl, rfl, rfl, by rw [hL1]; rfl, ?_⟩
      ·simp only [fObjs]
       first | exact eN | refine eM ?_
      ·intro b
       rw [hL2]
       simp only [EvJ, fObjs, rangeSt, go_sem, Nat.reduceEqDiff, reduceCtorEq, Nat.reduceAdd, Nat.reduceSub, Nat.reduceMul, Nat.reduceLeDiff, Nat.reduceLT, Int.reduceLE, Int.reduceToNat, Int.reduceNeg, ↓reduceIte]
       replace hc := marked_ok (dn := 103) (b := b) hc
       rw [hN]
       repeat' (first | exact trivial | refine eS rfl ?_ | refine ev_out_inv ?_ | refine rX [0, 1, 2, 3, 4, 5, 11, 12, 13] hc ?_ ?_ | (refine rC (fun hcond => ?_) (fun hcond => ?_) <;> try (cases hcond; done)))
       refine Ev.ent (σ' := ⟨[(2, .sr 9 T40 0 f.length)], [(9, .arr 40 T40 (firstF f)), (103, .dfr)]⟩) ?_ (ent_match [(9, .nm 9), (103, .nm 103)] rfl rfl ?_ ?_)
       ·exact ev_finMR hc [.tmp 2] rfl (.inl rfl) rfl rfl (.sr 9 T40 0 f.length) eT ⟨rfl, by simp only [go_sem, Nat.reduceEqDiff, reduceCtorEq, Nat.reduceAdd, Nat.reduceSub, Nat.reduceMul, Nat.reduceLeDiff, Nat.reduceLT, Int.reduceLE, Int.reduceToNat, Int.reduceNeg, ↓reduceIte]⟩
       ·first | exact eN | refine eM ?_
       ·first | exact eN | refine eM ?_
end
/- Functions of restrict: Depth. -/
section
attribute [local go_sem] subS canonicalS
def accT (first : List (List Int)) (d : Int) (n : Int) (_ : Int × Int) : Bool := decide (((first.getD n.toNat []).length : Int) < d)
theorem depthC_ok (first : List (List Int)) (d : Int) (n : Int) (a : Int × Int) (h : 0 ≤ n ∧ n < (first.length : Int)) : CallM Tryz.prog 128 [.p T3 n, .p T108 a, .bp 1 [] 0, .bp 3 [] 0] [(1, .box 45 false [.p T45 first]), (3, .box 3 false [.p T3 d])] [1, 3] (fun res objs' => res = .p .bool (accT first d n a) ∧ objs' = [(1, .box 45 false [.p T45 first]), (3, .box 3 false [.p T3 d])]) := by
 refine fnM_ok Tryz.func128 (by kernel_rfl) rfl Tryz.ntmps128 (by simp only [List.length_cons, List.length_nil]; omega) (by kernel_rfl) rfl rfl (tyTab_ok []) fns_nil ?_
 intro w0 K O0 ρ0 hc hok1 hok2
 simp only [argEnv]
 repeat' (first | exact trivial | refine eS rfl ?_ | refine ev_out_inv ?_ | refine rX [0, 1, 2, 3, 6] hc ?_ ?_ | (refine rC (fun hcond => ?_) (fun hcond => ?_) <;> try (cases hcond; done)))
 ·exact h
 ·refine Ev.ent (σ' := ⟨[(6, .p .bool (accT first d n a))], [(1, .box 45 false [.p T45 first]), (3, .box 3 false [.p T3 d])]⟩) ?_ (ent_match [(1, .nm 1), (3, .nm 3)] rfl rfl ?_ ?_)
  ·exact ev_finM hc [.tmp 6] rfl (.inl rfl) (.p .bool (accT first d n a)) eT ⟨rfl, rfl⟩
  ·first | exact eN | refine eM ?_
  ·first | exact eN | refine eM ?_
   rfl
theorem partT_ok (f : List GNode) (hf : GoodF f) (hs : SrtF f) (h0 : 0 < f.length) (first : List (List Int)) (d : Int) (hfi : first.length = f.length) : CallM Tryz.prog 94 [.p T25 f, .clo 128 [1, 3]] [(1, .box 45 false [.p T45 first]), (3, .box 3 false [.p T3 d])] [1, 3] (fun res _ => res = .p T25 (partF (accT first d) f)) := by
 refine fnM_ok Tryz.func94 (by kernel_rfl) rfl Tryz.ntmps94 (by simp only [List.length_cons, List.length_nil]; omega) (by kernel_rfl) rfl rfl (tyTab_ok [(90, subS)]) (fns_cons sub_ok fns_nil) ?_
 intro w0 K O0 ρ0 hc hok1 hok2
 simp only [argEnv]
 have hfl := hf.1
 repeat' (first | exact trivial | refine eS rfl ?_ | refine ev_out_inv ?_ | refine rX [0, 1, 2, 4, 5, 6, 7, 8, 10, 12, 13, 14, 15, 23, 24, 25, 26, 32] hc ?_ ?_ | (refine rC (fun hcond => ?_) (fun hcond => ?_) <;> try (cases hcond; done)))
 refine ev_loop (ι := {i : Nat // i ≤ f.length}) (fun i => ⟨[(1, .clo 128 [1, 3]), (2, .bp 2 [] 0), (4, .bp 4 [] 0), (5, .bp 5 [] 0), (12, .p T23 f), (13, .p (.int .i64) (f.length : Int)), (14, .p (.int .i64) (i.1 : Int))], [(5, .box 25 true [.sr 44 T88 0 i.1]), (4, .box 25 true [.raw (.slice none 0 0)]), (2, .box 25 true [.p T23 f]), (44, .arr 88 T88 (partL (accT first d) f i.1)), (1, .box 45 false [.p T45 first]), (3, .box 3 false [.p T3 d])]⟩) (fun i => f.length - i.1) ⟨0, by omega⟩ (ent_match [(5, .nm 5), (4, .nm 4), (2, .nm 2), (44, .nil), (1, .nm 1), (3, .nm 3)] rfl rfl ?_ ?_) (fun i => ?_)
 ·first | exact eN | refine eM ?_
  rfl
 ·first | exact eN | refine eM ?_
 ·obtain ⟨i, hi⟩ := i
  repeat' (first | exact trivial | refine eS rfl ?_ | refine ev_out_inv ?_ | refine rX [0, 1, 2, 4, 5, 6, 7, 8, 10, 12, 13, 14, 15, 23, 24, 25, 26, 32] hc ?_ ?_ | (refine rC (fun hcond => ?_) (fun hcond => ?_) <;> try (cases hcond; done)))
  ·exact eV
  ·have hif : i < f.length := by exact eV
   have hx : (f.getD i (0, [])).2.length ≤ 100000 := (hf.2 _ (mem_of_take_succ f (0, []) hif)).1
   have hpn : partN (accT first d) f i = ((f.getD i (0, [])).1, (f.getD i (0, [])).2.filter ((accT first d) (i : Int))) := rfl
   generalize hgx : f.getD i (0, []) = x at *
   obtain ⟨xt, L⟩ := x
   simp only at hx hpn
   refine ev_loop (ι := {k : Nat // k ≤ L.length}) (fun k => ⟨[(1, .clo 128 [1, 3]), (2, .bp 2 [] 0), (4, .bp 4 [] 0), (5, .bp 5 [] 0), (6, .p (.int .i64) (i : Int)), (8, .bp 8 [] 0), (12, .p T23 f), (13, .p (.int .i64) (f.length : Int)), (14, .p (.int .i64) (i : Int)), (23, .p T86 L), (24, .p (.int .i64) (L.length : Int)), (25, .p (.int .i64) (k.1 : Int))], [(8, .box 88 true [.p T3 xt, .sr 37 T108 0 ((L.take k.1).filter ((accT first d) (i : Int))).length]), (37, .arr 108 T108 ((L.take k.1).filter ((accT first d) (i : Int)))), (5, .box 25 true [.sr 44 T88 0 i]), (4, .box 25 true [.raw (.slice none 0 0)]), (2, .box 25 true [.p T23 f]), (44, .arr 88 T88 (partL (accT first d) f i)), (1, .box 45 false [.p T45 first]), (3, .box 3 false [.p T3 d])]⟩) (fun k => L.length - k.1) ⟨0, by omega⟩ (ent_match [(8, .nm 8), (37, .nil), (5, .nm 5), (4, .nm 4), (2, .nm 2), (44, .nm 44), (1, .nm 1), (3, .nm 3)] rfl rfl ?_ ?_) (fun k => ?_)
   ·first | exact eN | refine eM ?_
    exact ⟨rfl, rfl⟩
   ·first | exact eN | refine eM ?_
   ·obtain ⟨k, hk⟩ := k
    repeat' (first | exact trivial | refine eS rfl ?_ | refine ev_out_inv ?_ | refine rX [0, 1, 2, 4, 5, 6, 7, 8, 10, 12, 13, 14, 15, 23, 24, 25, 26, 32] hc ?_ ?_ | (refine rC (fun hcond => ?_) (fun hcond => ?_) <;> try (cases hcond; done)))
    ·exact eV
    ·have hkL : k < L.length := by exact eV
     have hlf := List.length_filter_le ((accT first d) (i : Int)) (L.take k)
     have hlt := List.length_take_le k L
     have hsn := filter_snoc ((accT first d) (i : Int)) L hkL
     refine cP 3 hc ?_ ?_
     ·trivial
     ·refine rM hc (depthC_ok first d (i : Int) (L.getD k (0, 0)) ⟨by omega, by omega⟩) [(1, .nm 1), (3, .nm 3)] [] ?_ ?_ ?_
      ·first | exact eN | refine eM ?_
      ·first | exact eN | refine eM ?_
      ·rintro _ _ ⟨rfl, rfl⟩
       refine ⟨[(1, .nm 1), (3, .nm 3)], .p .bool ((accT first d) (i : Int) (L.getD k (0, 0))), [(1, .box 45 false [.p T45 first]), (3, .box 3 false [.p T3 d])], rfl, rfl, ?_, ?_, rfl, rfl, evL_end ?_⟩
       ·first | exact eN | refine eM ?_
       ·first | exact eN | refine eM ?_
       ·generalize hac : (accT first d) (i : Int) (L.getD k (0, 0)) = ac at *
        repeat' (first | exact trivial | refine eS rfl ?_ | refine ev_out_inv ?_ | refine rX [0, 1, 2, 4, 5, 6, 7, 8, 10, 12, 13, 14, 15, 23, 24, 25, 26, 32] hc ?_ ?_ | (refine rC (fun hcond => ?_) (fun hcond => ?_) <;> try (cases hcond; done)))
        ·simp only [maxN]
         omega
        ·exact eV
        ·have hcond : ac = true := hcond
         subst hcond
         rw [if_pos rfl] at hsn
         refine ⟨⟨k + 1, by omega⟩, by simp only; omega, ent_match [(8, .nm 8), (37, .nm 37), (5, .nm 5), (4, .nm 4), (2, .nm 2), (44, .nm 44), (1, .nm 1), (3, .nm 3)] rfl rfl ?_ ?_⟩
         ·simp only [hsn]
          first | exact eN | refine eM ?_
         ·first | exact eN | refine eM ?_
        ·exact eV
        ·have hcond : ac = false := hcond
         subst hcond
         rw [if_neg (by simp)] at hsn
         rw [List.append_nil] at hsn
         refine ⟨⟨k + 1, by omega⟩, by simp only; omega, ent_match [(8, .nm 8), (37, .nm 37), (5, .nm 5), (4, .nm 4), (2, .nm 2), (44, .nm 44), (1, .nm 1), (3, .nm 3)] rfl rfl ?_ ?_⟩
         ·simp only [hsn]
          first | exact eN | refine eM ?_
         ·first | exact eN | refine eM ?_
    ·simp only [maxN]; omega
    ·exact eV
    ·have hkL : L.take k = L := List.take_of_length_le (by exact eV)
     rw [hkL]
     refine ⟨⟨i + 1, by omega⟩, by simp only; omega, ent_match [(5, .nm 5), (4, .nm 4), (2, .nm 2), (44, .nm 44), (1, .nm 1), (3, .nm 3)] rfl rfl ?_ ?_⟩
     ·simp only [partL_succ, hpn]
      first | exact eN | refine eM ?_
      rw [List.take_of_length_le (Nat.le_of_eq (partL_len _ f i))]
     ·first | exact eN | refine eM ?_
  ·have hif : i = f.length := by exact eV
   subst hif
   obtain ⟨hg1, hg2⟩ := part_good hf hs (accT first d)
   have hpl := partL_len (accT first d) f f.length
   have hpf : partF (accT first d) f = canonicalF (partL (accT first d) f f.length) 0 := rfl
   refine frzE [44] ?_
   have htl : (partL (accT first d) f f.length).take f.length = partL (accT first d) f f.length := List.take_of_length_le (Nat.le_of_eq hpl)
   rw [hpf]
   rw [htl]
   generalize partL (accT first d) f f.length = g at *
   repeat' (first | exact trivial | refine eS rfl ?_ | refine ev_out_inv ?_ | refine rX [0, 1, 2, 4, 5, 6, 7, 8, 10, 12, 13, 14, 15, 23, 24, 25, 26, 32] hc ?_ ?_ | (refine rC (fun hcond => ?_) (fun hcond => ?_) <;> try (cases hcond; done)))
   ·exact ⟨hg1, hg2, by exact eV⟩
   ·exact ev_finM hc [.cell 4 25] rfl (.inl rfl) (.p T25 (canonicalF g 0)) eT rfl
def pdepthF (f : List GNode) (d : Int) : List GNode := partF (accT (firstF f) d) f
def pdepthS : Spec := { ins := [T25, T3], pre := fun (f, _, _) => GoodF f ∧ SrtF f ∧ 0 < List.length f, out := fun (f, d, _) => [.p T25 (pdepthF f d)] }
theorem firstF_len {f : List GNode} (hf : GoodF f) (h0 : 0 < f.length) : (firstF f).length = f.length := by
 obtain ⟨n, hj, hn⟩ : ∃ n, (∀ j, j < n → j < (bst f j).2.2.length) ∧ (bst f n).2.2.length ≤ n := by
  have key : ∀ m n, m + n = f.length + 1 → (∀ j, j < n → j < (bst f j).2.2.length) → ∃ n, (∀ j, j < n → j < (bst f j).2.2.length) ∧ (bst f n).2.2.length ≤ n := by
   intro m
   induction m with
   | zero =>
    intro n hn hj
    have h1 := hj f.length (by omega)
    have h2 := (bst_BI hf h0 f.length).ok.cnt
    omega
   | succ m ih =>
    intro n hn hj
    by_cases h : (bst f n).2.2.length ≤ n
    ·exact ⟨n, hj, h⟩
    ·exact ih (n + 1) (by omega) fun j hj' => (Nat.lt_succ_iff_lt_or_eq.1 hj').elim (hj j) (fun e => by rw [e]; omega)
  exact key (f.length + 1) 0 (by omega) (fun j hj => by omega)
 rw [← coll_first hf h0 hj hn, coll_len]
theorem pdepth_ok : FnOk Tryz.prog 93 pdepthS := by
 refine fn_ok Tryz.func93 (by kernel_rfl) rfl Tryz.ntmps93 (by decide) (by kernel_rfl) (tyTab_ok []) fns_nil ?_
 rintro w0 O0 ⟨f, d, u⟩ hc - ⟨hf, hs, h0⟩
 simp only [pdepthS, entEnv]
 have hfl := firstF_len hf h0
 repeat' (first | exact trivial | refine eS rfl ?_ | refine ev_out_inv ?_ | refine rX [0, 1, 2, 3, 4, 5] hc ?_ ?_ | (refine rC (fun hcond => ?_) (fun hcond => ?_) <;> try (cases hcond; done)))
 refine cP 1 hc ?_ ?_
 ·trivial
 ·refine rM hc (pfirst_ok f hf h0) [] [] ?_ ?_ ?_
  ·first | exact eN | refine eM ?_
  ·first | exact eN | refine eM ?_
  ·rintro _ _ ⟨rfl, rfl⟩
   refine ⟨[(9, .nm 9)], .sr 9 T40 0 (List.length f), [(9, .arr 40 T40 (firstF f))], rfl, rfl, ?_, ?_, rfl, rfl, ?_⟩
   ·first | exact eN | refine eM ?_
   ·first | exact eN | refine eM ?_
   ·refine rL [2, 3, 4, 5] hc ?_ ?_
    ·trivial
    ·refine frzE [9] ?_
     have htk : (firstF f).take (List.length f) = firstF f := List.take_of_length_le (by exact eV)
     rw [htk]
     repeat' (first | exact trivial | refine eS rfl ?_ | refine ev_out_inv ?_ | refine rX [0, 1, 2, 3, 4, 5] hc ?_ ?_ | (refine rC (fun hcond => ?_) (fun hcond => ?_) <;> try (cases hcond; done)))
     refine cP 2 hc ?_ ?_
     ·trivial
     ·refine rM hc (partT_ok f hf hs h0 (firstF f) d hfl) [(1, .nm 5), (3, .nm 3)] [5, 3] ?_ ?_ ?_
      ·first | exact eN | refine eM ?_
      ·first | exact eN | refine eM ?_
      ·rintro _ _ rfl
       refine ⟨[], .p T25 (pdepthF f d), [], rfl, rfl, trivial, ?_, rfl, rfl, ?_⟩
       ·unfold pdepthF
        first | exact eN | refine eM ?_
       ·refine rL [4] hc ?_ ?_
        ·trivial
        ·repeat' (first | exact trivial | refine eS rfl ?_ | refine ev_out_inv ?_ | refine rX [0, 1, 2, 3, 4, 5] hc ?_ ?_ | (refine rC (fun hcond => ?_) (fun hcond => ?_) <;> try (cases hcond; done)))
         exact ev_fin hc [.cell 4 25] rfl (.inl rfl) (by simp) (by first | exact eR | refine eRM ?_)
end
/- Functions of restrict: Keep. -/
section
attribute [local go_sem] subS canonicalS
abbrev KMap := List ((Int × Int) × Bool)
def accK (l : KMap) (n : Int) (a : Int × Int) : Bool := (mfind T183 .bool (n, a.1) l).getD false
theorem keepC_ok (l : KMap) (n : Int) (a : Int × Int) : CallM Tryz.prog 127 [.p T3 n, .p T108 a, .bp 1 [] 0] [(1, .box 181 false [.mp 3]), (3, .mapo T183 .bool l)] [1, 3] (fun res objs' => res = .p .bool (accK l n a) ∧ objs' = [(1, .box 181 false [.mp 3]), (3, .mapo T183 .bool l)]) := by
 refine fnM_ok Tryz.func127 (by kernel_rfl) rfl Tryz.ntmps127 (by simp only [List.length_cons, List.length_nil]; omega) (by kernel_rfl) rfl rfl (tyTab_ok []) fns_nil ?_
 intro w0 K O0 ρ0 hc hok1 hok2
 simp only [argEnv]
 repeat' (first | exact trivial | refine eS rfl ?_ | refine ev_out_inv ?_ | refine rX [0, 1, 2, 4, 5] hc ?_ ?_ | (refine rC (fun hcond => ?_) (fun hcond => ?_) <;> try (cases hcond; done)))
 refine Ev.ent (σ' := ⟨[(5, .p .bool (accK l n a))], [(1, .box 181 false [.mp 3]), (3, .mapo T183 .bool l)]⟩) ?_ (ent_match [(1, .nm 1), (3, .nm 3)] rfl rfl ?_ ?_)
 ·exact ev_finM hc [.tmp 5] rfl (.inl rfl) (.p .bool (accK l n a)) eT ⟨rfl, rfl⟩
 ·first | exact eN | refine eM ?_
 ·first | exact eN | refine eM ?_
  rfl
theorem partK_ok (f : List GNode) (hf : GoodF f) (hs : SrtF f) (h0 : 0 < f.length) (l : KMap) : CallM Tryz.prog 94 [.p T25 f, .clo 127 [1]] [(1, .box 181 false [.mp 3]), (3, .mapo T183 .bool l)] [1, 3] (fun res _ => res = .p T25 (partF (accK l) f)) := by
 refine fnM_ok Tryz.func94 (by kernel_rfl) rfl Tryz.ntmps94 (by simp only [List.length_cons, List.length_nil]; omega) (by kernel_rfl) rfl rfl (tyTab_ok [(90, subS)]) (fns_cons sub_ok fns_nil) ?_
 intro w0 K O0 ρ0 hc hok1 hok2
 simp only [argEnv]
 have hfl := hf.1
 repeat' (first | exact trivial | refine eS rfl ?_ | refine ev_out_inv ?_ | refine rX [0, 1, 2, 4, 5, 6, 7, 8, 10, 12, 13, 14, 15, 23, 24, 25, 26, 32] hc ?_ ?_ | (refine rC (fun hcond => ?_) (fun hcond => ?_) <;> try (cases hcond; done)))
 refine ev_loop (ι := {i : Nat // i ≤ f.length}) (fun i => ⟨[(1, .clo 127 [1]), (2, .bp 2 [] 0), (4, .bp 4 [] 0), (5, .bp 5 [] 0), (12, .p T23 f), (13, .p (.int .i64) (f.length : Int)), (14, .p (.int .i64) (i.1 : Int))], [(5, .box 25 true [.sr 44 T88 0 i.1]), (4, .box 25 true [.raw (.slice none 0 0)]), (2, .box 25 true [.p T23 f]), (44, .arr 88 T88 (partL (accK l) f i.1)), (1, .box 181 false [.mp 3]), (3, .mapo T183 .bool l)]⟩) (fun i => f.length - i.1) ⟨0, by omega⟩ (ent_match [(5, .nm 5), (4, .nm 4), (2, .nm 2), (44, .nil), (1, .nm 1), (3, .nm 3)] rfl rfl ?_ ?_) (fun i => ?_)
 ·first | exact eN | refine eM ?_
  rfl
 ·first | exact eN | refine eM ?_
 ·obtain ⟨i, hi⟩ := i
  repeat' (first | exact trivial | refine eS rfl ?_ | refine ev_out_inv ?_ | refine rX [0, 1, 2, 4, 5, 6, 7, 8, 10, 12, 13, 14, 15, 23, 24, 25, 26, 32] hc ?_ ?_ | (refine rC (fun hcond => ?_) (fun hcond => ?_) <;> try (cases hcond; done)))
  ·exact eV
  ·have hif : i < f.length := by exact eV
   have hx : (f.getD i (0, [])).2.length ≤ 100000 := (hf.2 _ (mem_of_take_succ f (0, []) hif)).1
   have hpn : partN (accK l) f i = ((f.getD i (0, [])).1, (f.getD i (0, [])).2.filter ((accK l) (i : Int))) := rfl
   generalize hgx : f.getD i (0, []) = x at *
   obtain ⟨xt, L⟩ := x
   simp only at hx hpn
   refine ev_loop (ι := {k : Nat // k ≤ L.length}) (fun k => ⟨[(1, .clo 127 [1]), (2, .bp 2 [] 0), (4, .bp 4 [] 0), (5, .bp 5 [] 0), (6, .p (.int .i64) (i : Int)), (8, .bp 8 [] 0), (12, .p T23 f), (13, .p (.int .i64) (f.length : Int)), (14, .p (.int .i64) (i : Int)), (23, .p T86 L), (24, .p (.int .i64) (L.length : Int)), (25, .p (.int .i64) (k.1 : Int))], [(8, .box 88 true [.p T3 xt, .sr 37 T108 0 ((L.take k.1).filter ((accK l) (i : Int))).length]), (37, .arr 108 T108 ((L.take k.1).filter ((accK l) (i : Int)))), (5, .box 25 true [.sr 44 T88 0 i]), (4, .box 25 true [.raw (.slice none 0 0)]), (2, .box 25 true [.p T23 f]), (44, .arr 88 T88 (partL (accK l) f i)), (1, .box 181 false [.mp 3]), (3, .mapo T183 .bool l)]⟩) (fun k => L.length - k.1) ⟨0, by omega⟩ (ent_match [(8, .nm 8), (37, .nil), (5, .nm 5), (4, .nm 4), (2, .nm 2), (44, .nm 44), (1, .nm 1), (3, .nm 3)] rfl rfl ?_ ?_) (fun k => ?_)
   ·first | exact eN | refine eM ?_
    exact ⟨rfl, rfl⟩
   ·first | exact eN | refine eM ?_
   ·obtain ⟨k, hk⟩ := k
    repeat' (first | exact trivial | refine eS rfl ?_ | refine ev_out_inv ?_ | refine rX [0, 1, 2, 4, 5, 6, 7, 8, 10, 12, 13, 14, 15, 23, 24, 25, 26, 32] hc ?_ ?_ | (refine rC (fun hcond => ?_) (fun hcond => ?_) <;> try (cases hcond; done)))
    ·exact eV
    ·have hkL : k < L.length := by exact eV
     have hlf := List.length_filter_le ((accK l) (i : Int)) (L.take k)
     have hlt := List.length_take_le k L
     have hsn := filter_snoc ((accK l) (i : Int)) L hkL
     refine cP 3 hc ?_ ?_
     ·trivial
     ·refine rM hc (keepC_ok l (i : Int) (L.getD k (0, 0))) [(1, .nm 1), (3, .nm 3)] [] ?_ ?_ ?_
      ·first | exact eN | refine eM ?_
      ·first | exact eN | refine eM ?_
      ·rintro _ _ ⟨rfl, rfl⟩
       refine ⟨[(1, .nm 1), (3, .nm 3)], .p .bool ((accK l) (i : Int) (L.getD k (0, 0))), [(1, .box 181 false [.mp 3]), (3, .mapo T183 .bool l)], rfl, rfl, ?_, ?_, rfl, rfl, evL_end ?_⟩
       ·first | exact eN | refine eM ?_
       ·first | exact eN | refine eM ?_
       ·generalize hac : (accK l) (i : Int) (L.getD k (0, 0)) = ac at *
        repeat' (first | exact trivial | refine eS rfl ?_ | refine ev_out_inv ?_ | refine rX [0, 1, 2, 4, 5, 6, 7, 8, 10, 12, 13, 14, 15, 23, 24, 25, 26, 32] hc ?_ ?_ | (refine rC (fun hcond => ?_) (fun hcond => ?_) <;> try (cases hcond; done)))
        ·simp only [maxN]
         omega
        ·exact eV
        ·have hcond : ac = true := hcond
         subst hcond
         rw [if_pos rfl] at hsn
         refine ⟨⟨k + 1, by omega⟩, by simp only; omega, ent_match [(8, .nm 8), (37, .nm 37), (5, .nm 5), (4, .nm 4), (2, .nm 2), (44, .nm 44), (1, .nm 1), (3, .nm 3)] rfl rfl ?_ ?_⟩
         ·simp only [hsn]
          first | exact eN | refine eM ?_
         ·first | exact eN | refine eM ?_
        ·exact eV
        ·have hcond : ac = false := hcond
         subst hcond
         rw [if_neg (by simp)] at hsn
         rw [List.append_nil] at hsn
         refine ⟨⟨k + 1, by omega⟩, by simp only; omega, ent_match [(8, .nm 8), (37, .nm 37), (5, .nm 5), (4, .nm 4), (2, .nm 2), (44, .nm 44), (1, .nm 1), (3, .nm 3)] rfl rfl ?_ ?_⟩
         ·simp only [hsn]
          first | exact eN | refine eM ?_
         ·first | exact eN | refine eM ?_
    ·simp only [maxN]; omega
    ·exact eV
    ·have hkL : L.take k = L := List.take_of_length_le (by exact eV)
     rw [hkL]
     refine ⟨⟨i + 1, by omega⟩, by simp only; omega, ent_match [(5, .nm 5), (4, .nm 4), (2, .nm 2), (44, .nm 44), (1, .nm 1), (3, .nm 3)] rfl rfl ?_ ?_⟩
     ·simp only [partL_succ, hpn]
      first | exact eN | refine eM ?_
      rw [List.take_of_length_le (Nat.le_of_eq (partL_len _ f i))]
     ·first | exact eN | refine eM ?_
  ·have hif : i = f.length := by exact eV
   subst hif
   obtain ⟨hg1, hg2⟩ := part_good hf hs (accK l)
   have hpl := partL_len (accK l) f f.length
   have hpf : partF (accK l) f = canonicalF (partL (accK l) f f.length) 0 := rfl
   refine frzE [44] ?_
   have htl : (partL (accK l) f f.length).take f.length = partL (accK l) f f.length := List.take_of_length_le (Nat.le_of_eq hpl)
   rw [hpf]
   rw [htl]
   generalize partL (accK l) f f.length = g at *
   repeat' (first | exact trivial | refine eS rfl ?_ | refine ev_out_inv ?_ | refine rX [0, 1, 2, 4, 5, 6, 7, 8, 10, 12, 13, 14, 15, 23, 24, 25, 26, 32] hc ?_ ?_ | (refine rC (fun hcond => ?_) (fun hcond => ?_) <;> try (cases hcond; done)))
   ·exact ⟨hg1, hg2, by exact eV⟩
   ·exact ev_finM hc [.cell 4 25] rfl (.inl rfl) (.p T25 (canonicalF g 0)) eT rfl
def toF (l : List (Int × Int)) (x : Int) : Int := l.foldl (fun t a => if a.1 = x then a.2 else t) (-1)
def kpF (f : List GNode) : KMap → Int → List Int → KMap
 | m, _, [] => m
 | m, n, x :: r => if toF (f.getD n.toNat (0, [])).2 x < 0 then m else kpF f (mput T183 .bool (n, x) true m) (toF (f.getD n.toNat (0, [])).2 x) r
def keptF (f : List GNode) (ps : List (List Int)) : KMap := ps.foldl (fun m p => kpF f m 0 p) []
def pkeepF (f : List GNode) (ps : List (List Int)) : List GNode := partF (accK (keptF f ps)) f
def pkeepS : Spec := { ins := [T25, T45], pre := fun (f, _, _) => GoodF f ∧ SrtF f ∧ 0 < List.length f, out := fun (f, l, _) => [.p T25 (pkeepF f l)] }
theorem toF_or {f : List GNode} (hf : GoodF f) (n x : Int) : toF (f.getD n.toNat (0, [])).2 x < f.length := by
 have key : ∀ (l : List (Int × Int)) (t : Int), (∀ a ∈ l, a.2 < (f.length : Int)) → t < f.length → l.foldl (fun t a => if a.1 = x then a.2 else t) t < f.length := by
  intro l
  induction l with
  | nil => intro t _ h; exact h
  | cons a l ih =>
   intro t hl h
   simp only [List.foldl_cons]
   refine ih _ (fun b hb => hl b (by simp [hb])) ?_
   split
   ·exact hl a (by simp)
   ·exact h
 exact key _ _ (fun a ha => (arcs_in' hf ha).2) (by omega)
theorem pkeep_ok : FnOk Tryz.prog 92 pkeepS := by
 refine fn_ok Tryz.func92 (by kernel_rfl) rfl Tryz.ntmps92 (by decide) (by kernel_rfl) (tyTab_ok []) fns_nil ?_
 rintro w0 O0 ⟨f, ps, u⟩ hc ⟨hokf, ⟨hlp, hps⟩, -⟩ ⟨hf, hs, h0⟩
 simp only [maxN] at hlp
 have hfl := hf.1
 simp only [pkeepS, entEnv]
 repeat' (first | exact trivial | refine eS rfl ?_ | refine ev_out_inv ?_ | refine rX [0, 1, 2, 4, 5, 7, 8, 10, 11, 13, 15, 16, 17, 18, 21, 22, 23, 24, 32, 33, 34, 35, 41, 46] hc ?_ ?_ | (refine rC (fun hcond => ?_) (fun hcond => ?_) <;> try (cases hcond; done)))
 refine ev_loop (ι := {i : Nat // i ≤ ps.length}) (fun i => ⟨[(2, .bp 2 [] 0), (4, .bp 4 [] 0), (5, .bp 5 [] 0), (15, .p T45 ps), (16, .p (.int .i64) (ps.length : Int)), (17, .p (.int .i64) (i.1 : Int))], [(4, .box 25 true [.raw (.slice none 0 0)]), (2, .box 25 true [.p T23 f]), (5, .box 181 false [.mp 14]), (14, .mapo T183 .bool (keptF f (ps.take i.1)))]⟩) (fun i => ps.length - i.1) ⟨0, by omega⟩ (ent_match [(4, .nm 4), (2, .nm 2), (5, .nm 5), (14, .nm 14)] rfl rfl ?_ ?_) (fun i => ?_)
 ·first | exact eN | refine eM ?_
  rfl
 ·first | exact eN | refine eM ?_
 ·obtain ⟨i, hi⟩ := i
  have hsn := fun h : i < ps.length => fold_take (fun m p => kpF f m 0 p) ps ([] : List Int) [] h
  repeat' (first | exact trivial | refine eS rfl ?_ | refine ev_out_inv ?_ | refine rX [0, 1, 2, 4, 5, 7, 8, 10, 11, 13, 15, 16, 17, 18, 21, 22, 23, 24, 32, 33, 34, 35, 41, 46] hc ?_ ?_ | (refine rC (fun hcond => ?_) (fun hcond => ?_) <;> try (cases hcond; done)))
  ·exact eV
  ·have hil : i < ps.length := by exact eV
   have hpl : (ps.getD i []).length ≤ 140737488355328 := (hps _ (mem_of_take_succ ps [] hil)).1
   have hnx := hsn hil
   generalize ps.getD i [] = p at *
   generalize hm0 : keptF f (ps.take i) = m0 at *
   refine ev_loop (ι := {x : Nat × KMap × Int // x.1 ≤ p.length ∧ 0 ≤ x.2.2 ∧ x.2.2 < f.length ∧ kpF f x.2.1 x.2.2 (p.drop x.1) = kpF f m0 0 p}) (fun x => ⟨[(2, .bp 2 [] 0), (4, .bp 4 [] 0), (5, .bp 5 [] 0), (8, .p T3 x.1.2.2), (15, .p T45 ps), (16, .p (.int .i64) (ps.length : Int)), (17, .p (.int .i64) (i : Int)), (21, .p T40 p), (22, .p (.int .i64) (p.length : Int)), (23, .p (.int .i64) (x.1.1 : Int))], [(4, .box 25 true [.raw (.slice none 0 0)]), (2, .box 25 true [.p T23 f]), (5, .box 181 false [.mp 14]), (14, .mapo T183 .bool x.1.2.1)]⟩) (fun x => p.length - x.1.1) ⟨(0, m0, 0), by simp, by simp, by simp; omega, by simp⟩ (ent_match [(4, .nm 4), (2, .nm 2), (5, .nm 5), (14, .nm 14)] rfl rfl ?_ ?_) (fun x => ?_)
   ·first | exact eN | refine eM ?_
   ·first | exact eN | refine eM ?_
   ·obtain ⟨⟨k, m, n⟩, hk, hn0, hn1, hkp⟩ := x
    simp only at hk hn0 hn1 hkp
    simp only
    repeat' (first | exact trivial | refine eS rfl ?_ | refine ev_out_inv ?_ | refine rX [0, 1, 2, 4, 5, 7, 8, 10, 11, 13, 15, 16, 17, 18, 21, 22, 23, 24, 32, 33, 34, 35, 41, 46] hc ?_ ?_ | (refine rC (fun hcond => ?_) (fun hcond => ?_) <;> try (cases hcond; done)))
    ·exact eV
    ·exact ⟨hn0, hn1⟩
    ·have hkp2 : k < p.length := by exact eV
     have hdrop : p.drop k = p.getD k 0 :: p.drop (k + 1) := by
      rw [List.drop_eq_getElem_cons hkp2, List.getD_eq_getElem?_getD, List.getElem?_eq_getElem hkp2]; rfl
     have hto := toF_or hf n (p.getD k 0)
     have htoF : toF (f.getD n.toNat (0, [])).2 (p.getD k 0) = (f.getD n.toNat (0, [])).2.foldl (fun t a => if a.1 = p.getD k 0 then a.2 else t) (-1) := rfl
     have hLl := arcs_len hf n
     have hkpF : ∀ m n x r, kpF f m n (x :: r) = if toF (f.getD n.toNat (0, [])).2 x < 0 then m else kpF f (mput T183 .bool (n, x) true m) (toF (f.getD n.toNat (0, [])).2 x) r := fun _ _ _ _ => rfl
     rw [hdrop, hkpF] at hkp
     rw [htoF] at hkp hto
     generalize (f.getD n.toNat (0, [])).2 = L at *
     have hsnj := fun (j : Nat) (h : j < L.length) => fold_take (fun (t : Int) (a : Int × Int) => if a.1 = p.getD k 0 then a.2 else t) L (0, 0) (-1 : Int) h
     refine ev_loop (ι := {j : Nat // j ≤ L.length}) (fun j => ⟨[(2, .bp 2 [] 0), (4, .bp 4 [] 0), (5, .bp 5 [] 0), (8, .p T3 n), (10, .p T3 (p.getD k 0)), (11, .p T3 (L.take j.1 |>.foldl (fun t a => if a.1 = p.getD k 0 then a.2 else t) (-1 : Int))), (15, .p T45 ps), (16, .p (.int .i64) (ps.length : Int)), (17, .p (.int .i64) (i : Int)), (21, .p T40 p), (22, .p (.int .i64) (p.length : Int)), (23, .p (.int .i64) (k : Int)), (32, .p T86 L), (33, .p (.int .i64) (L.length : Int)), (34, .p (.int .i64) (j.1 : Int))], [(4, .box 25 true [.raw (.slice none 0 0)]), (2, .box 25 true [.p T23 f]), (5, .box 181 false [.mp 14]), (14, .mapo T183 .bool m)]⟩) (fun j => L.length - j.1) ⟨0, by omega⟩ (ent_match [(4, .nm 4), (2, .nm 2), (5, .nm 5), (14, .nm 14)] rfl rfl ?_ ?_) (fun j => ?_)
     ·first | exact eN | refine eM ?_
     ·first | exact eN | refine eM ?_
      rfl
     ·obtain ⟨j, hj⟩ := j
      simp only
      have hnj := hsnj j
      generalize hto0 : (L.take j).foldl (fun (t : Int) (a : Int × Int) => if a.1 = p.getD k 0 then a.2 else t) (-1) = to at *
      repeat' (first | exact trivial | refine eS rfl ?_ | refine ev_out_inv ?_ | refine rX [0, 1, 2, 4, 5, 7, 8, 10, 11, 13, 15, 16, 17, 18, 21, 22, 23, 24, 32, 33, 34, 35, 41, 46] hc ?_ ?_ | (refine rC (fun hcond => ?_) (fun hcond => ?_) <;> try (cases hcond; done)))
      ·exact eV
      ·exact eV
      ·have hjL : j < L.length := by exact eV
       refine ⟨⟨j + 1, by omega⟩, by simp only; omega, ent_match [(4, .nm 4), (2, .nm 2), (5, .nm 5), (14, .nm 14)] rfl rfl ?_ ?_⟩
       ·first | exact eN | refine eM ?_
       ·simp only [hnj hjL]
        rw [if_pos hcond]
        first | exact eN | refine eM ?_
      ·exact eV
      ·have hjL : j < L.length := by exact eV
       refine ⟨⟨j + 1, by omega⟩, by simp only; omega, ent_match [(4, .nm 4), (2, .nm 2), (5, .nm 5), (14, .nm 14)] rfl rfl ?_ ?_⟩
       ·first | exact eN | refine eM ?_
       ·simp only [hnj hjL]
        rw [if_neg hcond]
        first | exact eN | refine eM ?_
      ·exact eV
      ·have hjL : L.take j = L := List.take_of_length_le (by exact eV)
       rw [hjL] at hto0
       rw [hto0, if_pos hcond] at hkp
       refine ⟨⟨i + 1, by omega⟩, by simp only; omega, ent_match [(4, .nm 4), (2, .nm 2), (5, .nm 5), (14, .nm 14)] rfl rfl ?_ ?_⟩
       ·simp only
        unfold keptF
        rw [hnx]
        unfold keptF at hm0
        rw [hm0, ← hkp]
        first | exact eN | refine eM ?_
       ·first | exact eN | refine eM ?_
      ·exact eV
      ·have hjL : L.take j = L := List.take_of_length_le (by exact eV)
       rw [hjL] at hto0
       rw [hto0] at hkp hto
       rw [if_neg (by omega)] at hkp
       refine ⟨⟨(k + 1, mput T183 .bool (n, p.getD k 0) true m, to), by simp only; omega, hcond, hto, hkp⟩, by simp only; omega, ent_match [(4, .nm 4), (2, .nm 2), (5, .nm 5), (14, .nm 14)] rfl rfl ?_ ?_⟩
       ·first | exact eN | refine eM ?_
       ·first | exact eN | refine eM ?_
    ·exact eV
    ·have hkL : p.drop k = [] := List.drop_eq_nil_of_le (by exact eV)
     rw [hkL] at hkp
     have hkp : m = kpF f m0 0 p := hkp
     refine ⟨⟨i + 1, by omega⟩, by simp only; omega, ent_match [(4, .nm 4), (2, .nm 2), (5, .nm 5), (14, .nm 14)] rfl rfl ?_ ?_⟩
     ·simp only
      unfold keptF
      rw [hnx]
      unfold keptF at hm0
      rw [hm0, ← hkp]
      first | exact eN | refine eM ?_
     ·first | exact eN | refine eM ?_
  ·have hk : ps.take i = ps := List.take_of_length_le (by exact eV)
   rw [hk]
   refine cP 2 hc ?_ ?_
   ·trivial
   ·refine rM hc (partK_ok f hf hs h0 (keptF f ps)) [(1, .nm 5), (3, .nm 14)] [5, 14] ?_ ?_ ?_
    ·first | exact eN | refine eM ?_
    ·first | exact eN | refine eM ?_
    ·rintro _ _ rfl
     refine ⟨[], .p T25 (pkeepF f ps), [], rfl, rfl, trivial, ?_, rfl, rfl, ?_⟩
     ·unfold pkeepF
      first | exact eN | refine eM ?_
     ·refine rL [4] hc ?_ ?_
      ·trivial
      ·repeat' (first | exact trivial | refine eS rfl ?_ | refine ev_out_inv ?_ | refine rX [0, 1, 2, 4, 5, 7, 8, 10, 11, 13, 15, 16, 17, 18, 21, 22, 23, 24, 32, 33, 34, 35, 41, 46] hc ?_ ?_ | (refine rC (fun hcond => ?_) (fun hcond => ?_) <;> try (cases hcond; done)))
       exact ev_fin hc [.cell 4 25] rfl (.inl rfl) (by simp) (by first | exact eR | refine eRM ?_)
end
/- Functions of grammarlablaw15: exampleHolds. -/
section
attribute [local go_sem] equalS atomS pdropS pkeepS pdepthS
theorem ex1 : GoodF [(5, [(0, 1), (2, 1)]), (6, [(1, 2)]), (7, [])] ∧ SrtF [(5, [(0, 1), (2, 1)]), (6, [(1, 2)]), (7, [])] := by
 refine ⟨⟨by decide, by decide⟩, fun x hx => ?_⟩
 have : ∀ x ∈ ([(5, [(0, 1), (2, 1)]), (6, [(1, 2)]), (7, [])] : List GNode), x.2.Pairwise (fun a b => a.1 < b.1) ∧ x.2.length ≤ 200 := by decide
 exact ⟨(srtA_iff _).2 (this x hx).1, (this x hx).2⟩
theorem ex2 : GoodF [(3, [(0, 0)])] ∧ SrtF [(3, [(0, 0)])] := by
 refine ⟨⟨by decide, by decide⟩, fun x hx => ?_⟩
 have : ∀ x ∈ ([(3, [(0, 0)])] : List GNode), x.2.Pairwise (fun a b => a.1 < b.1) ∧ x.2.length ≤ 200 := by decide
 exact ⟨(srtA_iff _).2 (this x hx).1, (this x hx).2⟩
def exS : Spec := { ins := [], pre := fun _ => True, out := fun _ => [.p .bool true] }
theorem ex_ok : FnOk Tryz.prog 50 exS := by
 refine fn_ok Tryz.func50 (by kernel_rfl) rfl Tryz.ntmps50 (by decide) (by kernel_rfl) (tyTab_ok [(92, pkeepS), (20, equalS), (93, pdepthS), (51, pdropS), (59, atomS)] [7, 10, 13, 17, 20, 23, 26, 29, 31, 34, 35, 36, 42, 43, 56, 63, 70, 71]) (fns_cons pkeep_ok (fns_cons equal_ok (fns_cons pdepth_ok (fns_cons pdrop_ok (fns_cons atom_ok fns_nil))))) ?_
 rintro w0 O0 u hc - -
 simp only [exS, entEnv]
 repeat' (first | exact trivial | refine eS rfl ?_ | refine ev_out_inv ?_ | refine rX [0, 1, 2, 3, 4] hc ?_ ?_ | (refine rC (fun hcond => ?_) (fun hcond => ?_) <;> try (cases hcond; done)))
 ·repeat' (first | exact ex1 | exact ex2 | exact ex1.1 | exact ex1.2 | exact ex2.1 | exact ex2.2 | (refine (?_ : SmallF _); unfold SmallF; decide +kernel) | decide +kernel | intro _ | apply And.intro)
 ·refine Ev.ent (σ' := ⟨[(0, .p .bool true)], []⟩) ?_ (ent_match [] rfl rfl ?_ ?_)
  ·exact ev_fin hc [.tmp 0] rfl (.inl rfl) (by simp) (by first | exact eR | refine eRM ?_)
  ·first | exact eN | refine eM ?_
  ·first | exact eN | refine eM ?_
   decide +kernel
end
/- The plain laws under RestrictWhole: the first paths lead to their nodes and are shorter than the nodes are many; all nodes of a canonical feature structure are come to. -/
section
abbrev arcsAt (f : List GNode) (n : Int) : List (Int × Int) := (f.getD n.toNat (0, [])).2
def walkF (f : List GNode) : Int → List Int → Option Int
 | n, [] => some n
 | n, x :: r => if toF (arcsAt f n) x < 0 then none else walkF f (toF (arcsAt f n) x) r
theorem walkF_snoc (f : List GNode) : ∀ (p : List Int) (n m x : Int), walkF f n p = some m → walkF f n (p ++ [x]) = if toF (arcsAt f m) x < 0 then none else some (toF (arcsAt f m) x)
 | [], n, m, x, h => by
  simp only [walkF, Option.some.injEq] at h
  subst h
  rfl
 | y :: p, n, m, x, h => by
  simp only [walkF, List.cons_append] at h ⊢
  split at h
  ·cases h
  ·rename_i hc
   rw [if_neg hc]
   exact walkF_snoc f p _ m x h
theorem toF_arc {l : List (Int × Int)} (h : l.Pairwise (fun a b => a.1 < b.1)) {a : Int × Int} (ha : a ∈ l) : toF l a.1 = a.2 := by
 have keep : ∀ (l : List (Int × Int)) (t : Int), (∀ b ∈ l, ¬ b.1 = a.1) → l.foldl (fun t b => if b.1 = a.1 then b.2 else t) t = t := by
  intro l
  induction l with
  | nil => intro t _; rfl
  | cons b l ih =>
   intro t hl
   rw [List.foldl_cons, if_neg (hl b (by simp))]
   exact ih t (fun c hc => hl c (by simp [hc]))
 obtain ⟨l1, l2, rfl⟩ := List.append_of_mem ha
 rw [List.pairwise_append, List.pairwise_cons] at h
 obtain ⟨-, ⟨h2, -⟩, -⟩ := h
 unfold toF
 rw [List.foldl_append, List.foldl_cons, if_pos rfl]
 exact keep l2 _ (fun b hb e => by have := h2 b hb; omega)
theorem canonical_fix {f : List GNode} (h : canonicalB f = true) : canonicalF f 0 = f := by
 obtain ⟨hg, hs, h0, _⟩ := canonical_good h
 unfold canonicalB at h
 simp only [Bool.and_eq_true, beq_iff_eq] at h
 obtain ⟨_, hc, he⟩ := h
 have hcf : (canonF f).1 = fromF f 0 := by
  unfold canonF at hc ⊢
  split at hc
  ·rename_i hh; rw [if_pos hh]
  ·rename_i hh; exact absurd hc hh
 rw [hcf] at he
 rw [← from_canonical hg hs (by omega) (by omega)]
 exact compareF_eq he
/-! The parts -/
theorem partL_self {acc : Int → Int × Int → Bool} {f : List GNode} (h : ∀ i, i < f.length → ∀ a ∈ (f.getD i (0, [])).2, acc (i : Int) a = true) : partL acc f f.length = f := by
 apply List.ext_getElem
 ·exact partL_len _ _ _
 ·intro i h1 h2
  have e : f.getD i (0, []) = f[i] := by simp [List.getD_eq_getElem?_getD, h2]
  have := h i h2
  simp only [partL, List.getElem_map, List.getElem_range, partN]
  rw [List.filter_eq_self.2 this, e]
theorem partF_self {acc : Int → Int × Int → Bool} {f : List GNode} (hc : canonicalB f = true) (h : ∀ i, i < f.length → ∀ a ∈ (f.getD i (0, [])).2, acc (i : Int) a = true) : partF acc f = f := by
 unfold partF
 rw [partL_self h]
 exact canonical_fix hc
/-! Keep all paths -/
abbrev has (m : KMap) (k : Int × Int) : Prop := (mfind T183 .bool k m).getD false = true
end
/- Plain: structures that differ in their nodes' names alone have one canonical form; a part of a part is a part. -/
section
theorem dfs_more {f : List GNode} (hf : GoodF f) : ∀ (k : Nat) (o : List Int) (n : Int), DOk f o → 0 ≤ n → n < f.length → n ∉ o → f.length - o.length ≤ k → dfs f (k + 1) o n = dfs f k o n
 | 0, o, n, h, h0, h1, h2, hk => by
  have := (h.snoc h0 h1 h2).len
  simp only [List.length_append, List.length_singleton] at this
  omega
 | k + 1, o, n, h, h0, h1, h2, hk => by
  rw [dfs_succ, dfs_succ]
  have key : ∀ (l : List (Int × Int)) (t : List Int), (∀ a ∈ l, 0 ≤ a.2 ∧ a.2 < (f.length : Int)) → DOk f t → f.length - t.length ≤ k → l.foldl (stepD f (k + 1)) t = l.foldl (stepD f k) t := by
   intro l
   induction l with
   | nil => intros; rfl
   | cons a l ih =>
    intro t hl ht hlen
    have hq := hl a (by simp)
    have hs : stepD f (k + 1) t a = stepD f k t a := by
     unfold stepD
     split
     ·rfl
     ·rename_i hn
      exact dfs_more hf k t a.2 ht hq.1 hq.2 hn hlen
    have h3 : DOk f (stepD f k t a) ∧ t <+: stepD f k t a := by
     unfold stepD
     split
     ·exact ⟨ht, List.prefix_refl _⟩
     ·rename_i hn
      exact dfs_ok hf k t a.2 ht hq.1 hq.2 hn
    rw [List.foldl_cons, List.foldl_cons, hs]
    have := h3.2.length_le
    exact ih _ (fun b hb => hl b (by simp [hb])) h3.1 (by omega)
  exact key _ _ (fun a ha => arcs_in' hf ha) (h.snoc h0 h1 h2) (by simp only [List.length_append, List.length_singleton]; omega)
theorem dOk_nil (f : List GNode) : DOk f [] := ⟨by simp, fun x hx => by cases hx⟩
theorem dfs_fuel {f : List GNode} (hf : GoodF f) {n : Int} (h0 : 0 ≤ n) (h1 : n < f.length) : ∀ m, dfs f (f.length + m) [] n = dfs f f.length [] n
 | 0 => rfl
 | m + 1 => by
  rw [← Nat.add_assoc, dfs_more hf _ [] n (dOk_nil f) h0 h1 (by simp) (by simp only [List.length_nil]; omega)]
  exact dfs_fuel hf h0 h1 m
structure Iso (Q R : List GNode) (ψ : Int → Int) (C : Int → Prop) : Prop where
 arc : ∀ i, C i → arcsAt R (ψ i) = (arcsAt Q i).map fun a => (a.1, ψ a.2)
 cl : ∀ i, C i → ∀ a ∈ arcsAt Q i, C a.2
 inj : ∀ i j, C i → C j → ψ i = ψ j → i = j
theorem dfs_iso {Q R : List GNode} {ψ : Int → Int} {C : Int → Prop} (h : Iso Q R ψ C) : ∀ (k : Nat) (t : List Int) (i : Int), (∀ x ∈ t, C x) → C i → dfs R k (t.map ψ) (ψ i) = (dfs Q k t i).map ψ ∧ ∀ x ∈ dfs Q k t i, C x
 | 0, t, i, ht, hi => ⟨rfl, ht⟩
 | k + 1, t, i, ht, hi => by
  have key : ∀ (l : List (Int × Int)) (t : List Int), (∀ a ∈ l, C a.2) → (∀ x ∈ t, C x) →
    (l.map fun a => (a.1, ψ a.2)).foldl (stepD R k) (t.map ψ) = (l.foldl (stepD Q k) t).map ψ ∧ ∀ x ∈ l.foldl (stepD Q k) t, C x := by
   intro l
   induction l with
   | nil => intro t _ ht; exact ⟨rfl, ht⟩
   | cons a l ih =>
    intro t hl ht
    have ha := hl a (by simp)
    have hs : stepD R k (t.map ψ) (a.1, ψ a.2) = (stepD Q k t a).map ψ ∧ ∀ x ∈ stepD Q k t a, C x := by
     unfold stepD
     by_cases hm : a.2 ∈ t
     ·rw [if_pos hm, if_pos (List.mem_map.2 ⟨_, hm, rfl⟩)]
      exact ⟨rfl, ht⟩
     ·have hm2 : ¬ ψ a.2 ∈ t.map ψ := by
       intro hh
       obtain ⟨x, hx, e⟩ := List.mem_map.1 hh
       exact hm (h.inj x a.2 (ht x hx) ha e ▸ hx)
      rw [if_neg hm]
      simp only [if_neg hm2]
      exact dfs_iso h k t a.2 ht ha
    rw [List.map_cons, List.foldl_cons, List.foldl_cons, hs.1]
    exact ih _ (fun b hb => hl b (by simp [hb])) hs.2
  rw [dfs_succ, dfs_succ]
  have e : t.map ψ ++ [ψ i] = (t ++ [i]).map ψ := by simp
  have ea : (R.getD (ψ i).toNat (0, [])).2 = (arcsAt Q i).map fun a => (a.1, ψ a.2) := h.arc i hi
  rw [ea, e]
  refine key _ _ (h.cl i hi) fun x hx => ?_
  rcases List.mem_append.1 hx with hx | hx
  ·exact ht x hx
  ·have : x = i := by simpa using hx
   rw [this]; exact hi
theorem idxZ_map {o : List Int} {ψ : Int → Int} {x : Int} (h : ∀ y ∈ o, ψ y = ψ x → y = x) : idxZ (o.map ψ) (ψ x) = idxZ o x := by
 have hi : (o.map ψ).idxOf (ψ x) = o.idxOf x := by
  induction o with
  | nil => rfl
  | cons y o ih =>
   rw [List.map_cons, List.idxOf_cons, List.idxOf_cons]
   have hy := h y (by simp)
   by_cases e : y = x
   ·subst e; simp
   ·have e2 : ¬ ψ y = ψ x := fun hh => e (hy hh)
    have b1 : (y == x) = false := by simpa using e
    have b2 : (ψ y == ψ x) = false := by simpa using e2
    rw [b1, b2, ih (fun z hz => h z (by simp [hz]))]
 unfold idxZ
 by_cases hm : x ∈ o
 ·rw [if_pos hm, if_pos (List.mem_map.2 ⟨x, hm, rfl⟩), hi]
 ·rw [if_neg hm, if_neg]
  intro hh
  obtain ⟨y, hy, e⟩ := List.mem_map.1 hh
  exact hm (h y hy e ▸ hy)
theorem canonical_iso {Q R : List GNode} {ψ : Int → Int} {C : Int → Prop} (h : Iso Q R ψ C) (hQ : GoodF Q) (hC0 : C 0) (h0 : ψ 0 = 0) (hQ0 : 0 < Q.length) (hlen : Q.length ≤ R.length)
  (hty : ∀ i, C i → (R.getD (ψ i).toNat (0, [])).1 = (Q.getD i.toNat (0, [])).1) : canonicalF R 0 = canonicalF Q 0 := by
 have hd : dfs R R.length [] 0 = (dfs Q Q.length [] 0).map ψ ∧ ∀ x ∈ dfs Q Q.length [] 0, C x := by
  have h1 := dfs_iso h R.length [] 0 (fun x hx => by cases hx) hC0
  rw [h0] at h1
  have h2 := dfs_fuel hQ (n := 0) (by omega) (by omega) (R.length - Q.length)
  rw [show Q.length + (R.length - Q.length) = R.length by omega] at h2
  rw [h2] at h1
  exact h1
 unfold canonicalF
 rw [hd.1]
 generalize dfs Q Q.length [] 0 = o at *
 rw [List.map_map]
 refine List.map_congr_left fun i hi => ?_
 have hci := hd.2 i hi
 show nodeD R (o.map ψ) (ψ i) = nodeD Q o i
 unfold nodeD
 have ea : (R.getD (ψ i).toNat (0, [])).2 = (arcsAt Q i).map fun a => (a.1, ψ a.2) := h.arc i hci
 rw [hty i hci, ea, List.map_map]
 refine congrArg _ (List.map_congr_left fun a ha => ?_)
 show (a.1, idxZ (o.map ψ) (ψ a.2)) = (a.1, idxZ o a.2)
 rw [idxZ_map fun y hy e => h.inj y a.2 (hd.2 y hy) (h.cl i hci a ha) e]
/-! Nodes come to -/
structure Ord (f : List GNode) (o : List Int) : Prop where
 ok : DOk f o
 zero : o.getD 0 0 = 0 ∧ 0 < o.length
 cl : ∀ n ∈ o, ∀ a ∈ arcsAt f n, a.2 ∈ o
theorem dfs_head {f : List GNode} (hf : GoodF f) (h0 : 0 < f.length) : [0] <+: dfs f f.length [] 0 := by
 obtain ⟨k, hk⟩ : ∃ k, f.length = k + 1 := ⟨f.length - 1, by omega⟩
 rw [hk, dfs_succ]
 exact (foldD_ok (dfs_ok hf k) _ _ (fun a ha => arcs_in' hf ha) ((dOk_nil f).snoc (by omega) (by omega) (by simp))).2
theorem ord_of {f : List GNode} (hf : GoodF f) (h0 : 0 < f.length) : Ord f (dfs f f.length [] 0) := by
 have h1 := dfs_ok hf f.length [] 0 (dOk_nil f) (by omega) (by omega) (by simp)
 have h2 := dfs_closed hf f.length [] 0 (dOk_nil f) (by omega) (by omega) (by simp) (by simp)
 have h3 := dfs_head hf h0
 refine ⟨h1.1, ?_, fun n hn a ha => ?_⟩
 ·obtain ⟨t, ht⟩ := h3
  rw [← ht]
  exact ⟨rfl, by simp⟩
 ·rcases h2.2 n hn with h | h
  ·cases h
  ·exact h a ha
theorem Ord.mem0 {f : List GNode} {o : List Int} (h : Ord f o) : (0 : Int) ∈ o := by
 have := getD_mem' (l := o) (d := 0) h.zero.2
 rw [h.zero.1] at this
 exact this
where
 getD_mem' {l : List Int} {d : Int} {k : Nat} (h : k < l.length) : l.getD k d ∈ l := by
  rw [List.getD_eq_getElem?_getD, List.getElem?_eq_getElem h]
  exact List.getElem_mem h
theorem idxZ_get {o : List Int} (hn : o.Nodup) {i : Nat} (hi : i < o.length) : idxZ o (o.getD i 0) = (i : Int) := by
 have e : o.getD i 0 = o[i] := by rw [List.getD_eq_getElem?_getD, List.getElem?_eq_getElem hi]; rfl
 rw [e]
 unfold idxZ
 rw [if_pos (List.getElem_mem hi), hn.idxOf_getElem i hi]
theorem get_idxZ {o : List Int} {x : Int} (h : x ∈ o) : 0 ≤ idxZ o x ∧ idxZ o x < (o.length : Int) ∧ o.getD (idxZ o x).toNat 0 = x := by
 unfold idxZ
 rw [if_pos h]
 have hl := List.idxOf_lt_length_of_mem h
 refine ⟨by omega, by omega, ?_⟩
 rw [Int.toNat_natCast, List.getD_eq_getElem?_getD, List.getElem?_eq_getElem hl]
 show o[o.idxOf x] = x
 exact List.getElem_idxOf hl
theorem canon_len (f : List GNode) : (canonicalF f 0).length = (dfs f f.length [] 0).length := by simp [canonicalF]
theorem canon_get {f : List GNode} {i : Nat} (hi : i < (dfs f f.length [] 0).length) : (canonicalF f 0).getD i (0, []) = nodeD f (dfs f f.length [] 0) ((dfs f f.length [] 0).getD i 0) := by
 unfold canonicalF
 simp [List.getD_eq_getElem?_getD, hi]
theorem canon_good {f : List GNode} (hf : GoodF f) (hs : SrtF f) (h0 : 0 < f.length) : GoodF (canonicalF f 0) ∧ SrtF (canonicalF f 0) ∧ 0 < (canonicalF f 0).length ∧ (canonicalF f 0).length ≤ f.length := by
 have ho := ord_of hf h0
 have hl := ho.ok.len
 have hcl := canon_len f
 refine ⟨⟨by rw [hcl]; exact Nat.le_trans hl hf.1, fun x hx => ?_⟩, fun x hx => ?_, by rw [hcl]; exact ho.zero.2, by rw [hcl]; exact hl⟩
 ·rw [hcl]
  unfold canonicalF at hx
  obtain ⟨n, hn, rfl⟩ := List.mem_map.1 hx
  refine ⟨?_, fun a ha => ?_⟩
  ·unfold nodeD
   rw [List.length_map]
   have := (srt_of hs n).2
   omega
  ·unfold nodeD at ha
   obtain ⟨b, hb, rfl⟩ := List.mem_map.1 ha
   have := get_idxZ (ho.cl n hn b hb)
   exact ⟨this.1, this.2.1⟩
 ·unfold canonicalF at hx
  obtain ⟨n, hn, rfl⟩ := List.mem_map.1 hx
  have h1 := srt_of hs n
  unfold nodeD
  refine ⟨?_, by rw [List.length_map]; exact h1.2⟩
  rw [srtA_iff, List.pairwise_map]
  exact (srtA_iff _).1 h1.1
theorem part_get (acc : Int → Int × Int → Bool) {f : List GNode} {n : Int} (h0 : 0 ≤ n) (h1 : n < f.length) : (partL acc f f.length).getD n.toNat (0, []) = ((f.getD n.toNat (0, [])).1, (arcsAt f n).filter (acc n)) := by
 have hn : n.toNat < f.length := by omega
 have e : ((n.toNat : Nat) : Int) = n := by omega
 unfold partL
 simp only [List.getD_eq_getElem?_getD, List.getElem?_map, List.getElem?_range hn, Option.map_some, Option.getD_some, partN]
 rw [e]
 rfl
theorem part_good2 {f : List GNode} (hf : GoodF f) (hs : SrtF f) (h0 : 0 < f.length) (acc : Int → Int × Int → Bool) : GoodF (partF acc f) ∧ SrtF (partF acc f) ∧ 0 < (partF acc f).length ∧ (partF acc f).length ≤ f.length := by
 obtain ⟨hPg, hPs⟩ := part_good hf hs acc
 have hPl := partL_len acc f f.length
 have := canon_good hPg hPs (by omega)
 rw [hPl] at this
 exact this
end
/- Plain: what Keep keeps; Keep twice is Keep. -/
section
theorem srt_arcs {f : List GNode} (hs : SrtF f) (n : Int) : (arcsAt f n).Pairwise (fun a b => a.1 < b.1) := (srtA_iff _).1 (srt_of hs n).1
theorem toF_in {f : List GNode} (hs : SrtF f) {n : Int} {a : Int × Int} (ha : a ∈ arcsAt f n) : toF (arcsAt f n) a.1 = a.2 := toF_arc (srt_arcs hs n) ha
theorem part_arcs {f : List GNode} (hf : GoodF f) (hs : SrtF f) (h0 : 0 < f.length) (acc : Int → Int × Int → Bool) {n : Int} (hn : n ∈ dfs (partL acc f f.length) f.length [] 0) :
  arcsAt (partF acc f) (idxZ (dfs (partL acc f f.length) f.length [] 0) n) = ((arcsAt f n).filter (acc n)).map (renD (dfs (partL acc f f.length) f.length [] 0)) := by
 obtain ⟨hPg, hPs⟩ := part_good hf hs acc
 have hPl := partL_len acc f f.length
 have ho := ord_of hPg (by omega)
 have hg := fun i => canon_get (f := partL acc f f.length) (i := i)
 rw [hPl] at ho hg
 obtain ⟨g0, g1, g2⟩ := get_idxZ hn
 have hr := ho.ok.rng n hn
 rw [hPl] at hr
 show ((partF acc f).getD _ (0, [])).2 = _
 have : partF acc f = canonicalF (partL acc f f.length) 0 := rfl
 rw [this, hg _ (by omega), g2]
 unfold nodeD
 rw [part_get acc hr.1 hr.2]
end
/- Plain: the first paths are shortest; Depth twice is the lesser Depth. -/
section
theorem walk_arc {f : List GNode} (hf : GoodF f) (hs : SrtF f) {p : List Int} {x : Int} (h : walkF f 0 p = some x) {a : Int × Int} (ha : a ∈ arcsAt f x) : walkF f 0 (p ++ [a.1]) = some a.2 := by
 rw [walkF_snoc f p 0 x a.1 h, toF_in hs ha, if_neg (by have := (arcs_in' hf ha).1; omega)]
theorem dfs_pred {f : List GNode} {C : Int → Prop} (h0 : C 0) (hC : ∀ i, C i → ∀ a ∈ arcsAt f i, C a.2) (k : Nat) : ∀ x ∈ dfs f k [] 0, C x := by
 have h : Iso f f id C := ⟨fun i _ => by simp, hC, fun i j _ _ e => e⟩
 exact (dfs_iso h k [] 0 (fun x hx => by cases hx) h0).2
end
/- Functions of subsume: target, Map, Subsumes. -/
section
attribute [local go_sem] hsubS
def tgtF (l : List (Int × Int)) (e : Int) : Int := match l with
 | [] => -1
 | a :: l => if a.1 = e then a.2 else tgtF l e
theorem tgtF_step (e : Int) (l : List (Int × Int)) {k : Nat} (h : k < l.length) : tgtF (l.drop k) e = if (l.getD k (0, 0)).1 = e then (l.getD k (0, 0)).2 else tgtF (l.drop (k + 1)) e := by
 rw [List.drop_eq_getElem_cons h]
 have e : l.getD k (0, 0) = l[k] := by simp [List.getD_eq_getElem?_getD, h]
 rw [e]
 rfl
def targetS : Spec := { ins := [T88, T3], pre := fun _ => True, out := fun (x, e, _) => [.p T3 (tgtF x.2 e)], lend := true }
attribute [local go_sem] targetS
theorem target_ok : FnOk Tryz.prog 126 targetS := by
 refine fn_ok Tryz.func126 (by kernel_rfl) rfl Tryz.ntmps126 (by decide) (by kernel_rfl) (tyTab_ok []) fns_nil ?_
 rintro w0 O0 ⟨⟨ty, l⟩, e, u⟩ hc ⟨⟨-, hl, -⟩, -⟩ -
 simp only [maxN] at hl
 simp only [targetS, entEnv]
 repeat' (first | exact trivial | refine eS rfl ?_ | refine ev_out_inv ?_ | refine rX [0, 1, 2, 4, 6, 8, 9, 10, 11, 17] hc ?_ ?_ | (refine rC (fun hcond => ?_) (fun hcond => ?_) <;> try (cases hcond; done)))
 refine ev_loop (ι := {k : Nat // k ≤ l.length ∧ tgtF (l.drop k) e = tgtF l e}) (fun k => ⟨[(1, .p T3 e), (8, .p T86 l), (9, .p (.int .i64) (l.length : Int)), (10, .p (.int .i64) (k.1 : Int))], []⟩) (fun k => l.length - k.1) ⟨0, Nat.zero_le _, rfl⟩ (ent_match [] rfl rfl ?_ ?_) (fun k => ?_)
 ·first | exact eN | refine eM ?_
 ·first | exact eN | refine eM ?_
 ·obtain ⟨k, hk, hf⟩ := k
  have hst := fun h : k < l.length => tgtF_step e l h
  simp only
  repeat' (first | exact trivial | refine eS rfl ?_ | refine ev_out_inv ?_ | refine rX [0, 1, 2, 4, 6, 8, 9, 10, 11, 17] hc ?_ ?_ | (refine rC (fun hcond => ?_) (fun hcond => ?_) <;> try (cases hcond; done)))
  ·exact hcond
  ·have hk2 : k < l.length := by exact eV
   rw [hst hk2, if_pos hcond] at hf
   exact ev_fin hc [.tmp 4] rfl (.inl rfl) (by simp) (by rw [← hf]; first | exact eR | refine eRM ?_)
  ·exact eV
  ·have hk2 : k < l.length := by exact eV
   rw [hst hk2, if_neg (by simpa using hcond)] at hf
   refine ⟨⟨k + 1, hk2, hf⟩, by simp only; omega, ent_match [] rfl rfl ?_ ?_⟩
   ·first | exact eN | refine eM ?_
   ·first | exact eN | refine eM ?_
  ·have hk2 : l.drop k = [] := List.drop_eq_nil_of_le (by exact eV)
   rw [hk2] at hf
   exact ev_fin hc [.tmp 4] rfl (.inl rfl) (by simp) (by rw [← hf]; first | exact eR | refine eRM ?_; rfl)
end
/- Functions of subsume: Map, Subsumes. -/
section
attribute [local go_sem] hsubS targetS
def fillG (n i : Nat) : List Int := (List.range n).map fun j => if j < i then -1 else 0
theorem fillG_len (n i : Nat) : (fillG n i).length = n := by simp [fillG]
theorem fillG_zero (n : Nat) : fillG n 0 = List.replicate n 0 := by
 apply List.ext_getElem
 ·simp [fillG]
 ·intro j h1 h2
  simp [fillG]
theorem fillG_set (n i : Nat) : (fillG n i).set i (-1) = fillG n (i + 1) := by
 apply List.ext_getElem
 ·simp [fillG]
 ·intro j h1 h2
  simp only [fillG, List.getElem_set, List.getElem_map, List.getElem_range]
  split
  ·rename_i e; rw [if_pos (by omega)]
  ·rename_i e
   by_cases hj : j < i
   ·rw [if_pos hj, if_pos (by omega)]
   ·rw [if_neg hj, if_neg (by omega)]
theorem fillG_all (n : Nat) : fillG n n = List.replicate n (-1) := by
 apply List.ext_getElem
 ·simp [fillG]
 ·intro j h1 h2
  simp only [fillG, List.getElem_map, List.getElem_range, List.getElem_replicate]
  rw [if_pos (by simpa [fillG] using h1)]
def mapBad (bl : List (Int × Int)) (m : List Int) (x : Int × Int) : Bool := decide (tgtF bl x.1 < 0) || decide (0 ≤ m.getD x.2.toNat 0) && !(m.getD x.2.toNat 0 == tgtF bl x.1)
def mapArcs (bl : List (Int × Int)) : List (Int × Int) → List Int → Option (List Int)
 | [], m => some m
 | x :: l, m => if mapBad bl m x = true then none else mapArcs bl l (m.set x.2.toNat (tgtF bl x.1))
def nodeBad (h : HierD) (b : List GNode) (n : GNode) (k : Int) : Bool := decide (k < 0) || !hsubF h n.1 (b.getD k.toNat (0, [])).1
def mapNodes (h : HierD) (b : List GNode) : List GNode → Nat → List Int → Option (List Int)
 | [], _, m => some m
 | n :: r, i, m => if nodeBad h b n (m.getD i 0) = true then none else match mapArcs (b.getD (m.getD i 0).toNat (0, [])).2 n.2 m with
  | none => none
  | some m' => mapNodes h b r (i + 1) m'
def mapF (h : HierD) (a b : List GNode) : Option (List Int) := mapNodes h b a 0 ((List.replicate a.length (-1)).set 0 0)
theorem mapArcs_step (bl l : List (Int × Int)) (m : List Int) {k : Nat} (h : k < l.length) : mapArcs bl (l.drop k) m = if mapBad bl m (l.getD k (0, 0)) = true then none else mapArcs bl (l.drop (k + 1)) (m.set (l.getD k (0, 0)).2.toNat (tgtF bl (l.getD k (0, 0)).1)) := by
 rw [List.drop_eq_getElem_cons h]
 have e : l.getD k (0, 0) = l[k] := by simp [List.getD_eq_getElem?_getD, h]
 rw [e]
 rfl
theorem mapNodes_step (h : HierD) (b a : List GNode) (m : List Int) {i : Nat} (hi : i < a.length) : mapNodes h b (a.drop i) i m = if nodeBad h b (a.getD i (0, [])) (m.getD i 0) = true then none else match mapArcs (b.getD (m.getD i 0).toNat (0, [])).2 (a.getD i (0, [])).2 m with
  | none => none
  | some m' => mapNodes h b (a.drop (i + 1)) (i + 1) m' := by
 rw [List.drop_eq_getElem_cons hi]
 have e : a.getD i (0, []) = a[i] := by simp [List.getD_eq_getElem?_getD, hi]
 rw [e]
 rfl
structure MapI (a b : List GNode) (m : List Int) : Prop where
 len : m.length = a.length
 rng : ∀ x ∈ m, x < (b.length : Int)
theorem tgtF_lt {n : Int} (hn : 0 ≤ n) : ∀ {l : List (Int × Int)} (e : Int), (∀ x ∈ l, x.2 < n) → tgtF l e < n
 | [], _, _ => by simp only [tgtF]; omega
 | x :: l, e, h => by
  simp only [tgtF]
  split
  ·exact h x (by simp)
  ·exact tgtF_lt hn e (fun y hy => h y (by simp [hy]))
theorem MapI.set {a b : List GNode} {m : List Int} (h : MapI a b m) (k : Nat) {v : Int} (hv : v < (b.length : Int)) : MapI a b (m.set k v) := by
 refine ⟨by simp [h.len], fun x hx => ?_⟩
 rcases List.mem_or_eq_of_mem_set hx with hx | hx
 ·exact h.rng x hx
 ·rw [hx]; exact hv
theorem MapI.get {a b : List GNode} {m : List Int} (h : MapI a b m) (hb : 0 < b.length) (k : Nat) : m.getD k 0 < (b.length : Int) := by
 rw [List.getD_eq_getElem?_getD]
 cases hh : m[k]? with
 | none => show (0 : Int) < _; omega
 | some x => exact h.rng x (List.mem_of_getElem? hh)
def TyOk (h : HierD) (f : List GNode) : Prop := ∀ x ∈ f, 0 ≤ x.1 ∧ x.1 < (h.1.length : Int)
theorem node_rng {f : List GNode} (hf : GoodF f) (k : Nat) : ∀ x ∈ (f.getD k (0, [])).2, 0 ≤ x.2 ∧ x.2 < (f.length : Int) := by
 intro x hx
 by_cases h : k < f.length
 ·exact (hf.2 _ (mem_of_take_succ f (0, []) h)).2 x hx
 ·rw [List.getD_eq_getElem?_getD, List.getElem?_eq_none (by omega)] at hx
  cases hx
def mapS : Spec := { ins := [T29, T25, T25], pre := fun (h, a, b, _) => GoodF a ∧ 0 < List.length a ∧ GoodF b ∧ 0 < List.length b ∧ TyOk h a ∧ TyOk h b, out := fun (h, a, b, _) => [.p T40 ((mapF h a b).getD []), .p .bool (mapF h a b).isSome] }
attribute [local go_sem] mapS
theorem map_ok : FnOk Tryz.prog 91 mapS := by
 refine fn_ok Tryz.func91 (by kernel_rfl) rfl Tryz.ntmps91 (by decide) (by kernel_rfl) (tyTab_ok [(125, hsubS), (126, targetS)]) (fns_cons hsub_ok (fns_cons target_ok fns_nil)) ?_
 rintro w0 O0 ⟨⟨ht, hf⟩, a, b, u⟩ hc - ⟨hga, ha0, hgb, hb0, hta, htb⟩
 have hal := hga.1
 simp only [mapS, entEnv]
 repeat' (first | exact trivial | refine eS rfl ?_ | refine ev_out_inv ?_ | refine rX [0, 1, 2, 3, 4, 5, 6, 7, 8, 9, 10, 11, 12, 13, 15, 16, 22, 23, 24, 33, 34, 35, 36, 58, 60, 61, 62, 63, 92, 101] hc ?_ ?_ | (refine rC (fun hcond => ?_) (fun hcond => ?_) <;> try (cases hcond; done)))
 refine Ev.ent (σ' := ⟨[(3, .bp 3 [] 0), (4, .bp 4 [] 0), (5, .bp 5 [] 0)], [(3, .box 29 true [.p T26 ht, .p T27 hf]), (4, .box 25 true [.p T23 a]), (5, .box 25 true [.p T23 b])]⟩) ?_ (ent_match [(3, .nm 3), (4, .nm 4), (5, .nm 5)] rfl rfl ?_ ?_)
 ·refine ev_scope ret_goto ?_
  repeat' (first | exact trivial | refine eS rfl ?_ | refine ev_out_inv ?_ | refine rX [0, 1, 2, 3, 4, 5, 6, 7, 8, 9, 10, 11, 12, 13, 15, 16, 22, 23, 24, 33, 34, 35, 36, 58, 60, 61, 62, 63, 92, 101] hc ?_ ?_ | (refine rC (fun hcond => ?_) (fun hcond => ?_) <;> try (cases hcond; done)))
  ·simp only [maxN]; omega
  ·refine ev_loop (ι := {i : Nat // i ≤ a.length}) (fun i => ⟨[(3, .bp 3 [] 0), (4, .bp 4 [] 0), (5, .bp 5 [] 0), (8, .sr 20 T3 0 a.length), (22, .p (.int .i64) (a.length : Int)), (23, .p (.int .i64) (i.1 : Int))], [(3, .box 29 true [.p T26 ht, .p T27 hf]), (4, .box 25 true [.p T23 a]), (5, .box 25 true [.p T23 b]), (20, .arr 3 T3 (fillG a.length i.1))]⟩) (fun i => a.length - i.1) ⟨0, Nat.zero_le _⟩ (ent_match [(3, .nm 3), (4, .nm 4), (5, .nm 5), (20, .nm 20)] rfl rfl ?_ ?_) (fun i => ?_)
   ·first | exact eN | refine eM ?_
    rw [fillG_zero]
   ·first | exact eN | refine eM ?_
   ·obtain ⟨i, hi⟩ := i
    have hfl := fillG_len a.length i
    simp only
    repeat' (first | exact trivial | refine eS rfl ?_ | refine ev_out_inv ?_ | refine rX [0, 1, 2, 3, 4, 5, 6, 7, 8, 9, 10, 11, 12, 13, 15, 16, 22, 23, 24, 33, 34, 35, 36, 58, 60, 61, 62, 63, 92, 101] hc ?_ ?_ | (refine rC (fun hcond => ?_) (fun hcond => ?_) <;> try (cases hcond; done)))
    ·exact hcond
    ·omega
    ·have hi2 : i < a.length := Int.ofNat_lt.1 hcond
     refine ⟨⟨i + 1, hi2⟩, by simp only; omega, ent_match [(3, .nm 3), (4, .nm 4), (5, .nm 5), (20, .nm 20)] rfl rfl ?_ ?_⟩
     ·simp only [← fillG_set]
      first | exact eN | refine eM ?_
     ·first | exact eN | refine eM ?_
    ·exact Int.ofNat_lt.2 ha0
    ·have hi2 : i = a.length := by omega
     subst hi2
     rw [fillG_all]
     have hm0 : MapI a b ((List.replicate a.length (-1)).set 0 0) := MapI.set ⟨by simp, fun x hx => by rw [(List.mem_replicate.1 hx).2]; omega⟩ 0 (by omega)
     have hmf : mapF (ht, hf) a b = mapNodes (ht, hf) b (a.drop 0) 0 ((List.replicate a.length (-1)).set 0 0) := rfl
     generalize (List.replicate a.length (-1 : Int)).set 0 0 = m0 at *
     refine ev_label ?_
     repeat' (first | exact trivial | refine eS rfl ?_ | refine ev_out_inv ?_ | refine rX [0, 1, 2, 3, 4, 5, 6, 7, 8, 9, 10, 11, 12, 13, 15, 16, 22, 23, 24, 33, 34, 35, 36, 58, 60, 61, 62, 63, 92, 101] hc ?_ ?_ | (refine rC (fun hcond => ?_) (fun hcond => ?_) <;> try (cases hcond; done)))
     refine ev_loop (ι := {x : Nat × List Int // x.1 ≤ a.length ∧ MapI a b x.2 ∧ mapNodes (ht, hf) b (a.drop x.1) x.1 x.2 = mapF (ht, hf) a b}) (fun x => ⟨[(3, .bp 3 [] 0), (5, .bp 5 [] 0), (8, .sr 20 T3 0 a.length), (10, .p .bool true), (33, .p T23 a), (34, .p (.int .i64) (a.length : Int)), (35, .p (.int .i64) (x.1.1 : Int))], [(3, .box 29 true [.p T26 ht, .p T27 hf]), (5, .box 25 true [.p T23 b]), (20, .arr 3 T3 x.1.2)]⟩) (fun x => a.length - x.1.1) ⟨(0, m0), Nat.zero_le _, hm0, hmf.symm⟩ (ent_match [(3, .nm 3), (5, .nm 5), (20, .nm 20)] rfl rfl ?_ ?_) (fun x => ?_)
     ·first | exact eN | refine eM ?_
     ·first | exact eN | refine eM ?_
     ·obtain ⟨⟨i, m⟩, hi, hmI, hmn⟩ := x
      simp only at hi hmI hmn
      have hml := hmI.len
      have hst := fun h : i < a.length => mapNodes_step (ht, hf) b a m h
      simp only
      repeat' (first | exact trivial | refine eS rfl ?_ | refine ev_out_inv ?_ | refine rX [0, 1, 2, 3, 4, 5, 6, 7, 8, 9, 10, 11, 12, 13, 15, 16, 22, 23, 24, 33, 34, 35, 36, 58, 60, 61, 62, 63, 92, 101] hc ?_ ?_ | (refine rC (fun hcond => ?_) (fun hcond => ?_) <;> try (cases hcond; done)))
      ·exact hcond
      ·exact hcond
      ·have hi2 : i < a.length := Int.ofNat_lt.1 hcond
       have hk := hmI.get hb0 i
       refine ⟨fun h => ⟨by simpa using h, hk⟩, fun h => ⟨hta _ (mem_of_take_succ a (0, []) hi2), htb _ (mem_of_take_succ b (0, []) ?_)⟩⟩
       have : (0 : Int) ≤ m.getD i 0 := by simpa using h
       omega
      ·have hi2 : i < a.length := Int.ofNat_lt.1 (by assumption)
       have hbad : nodeBad (ht, hf) b (a.getD i (0, [])) (m.getD i 0) = true := by
        unfold nodeBad
        rw [Bool.or_eq_true, decide_eq_true_eq, Bool.not_eq_true']
        assumption
       rw [hst hi2, if_pos hbad] at hmn
       exact ev_fin hc [.tmp 6, .tmp 7] rfl (.inl rfl) (by simp) (by rw [← hmn]; first | exact eR | refine eRM ?_; first | rfl | exact ⟨rfl, rfl⟩)
      ·have hi2 : i < a.length := Int.ofNat_lt.1 (by assumption)
       have hbad : ¬ nodeBad (ht, hf) b (a.getD i (0, [])) (m.getD i 0) = true := by
        unfold nodeBad
        rw [Bool.or_eq_true, decide_eq_true_eq, Bool.not_eq_true']
        rintro (h | h)
        ·have := hcond.1; omega
        ·rw [show hsubF (ht, hf) (a.getD i (0, [])).1 (b.getD (m.getD i 0).toNat (0, [])).1 = true from hcond.2] at h
         cases h
       rw [hst hi2, if_neg hbad] at hmn
       have hk0 : (0 : Int) ≤ m.getD i 0 := hcond.1
       have hk1 := hmI.get hb0 i
       have hal2 : (a.getD i (0, [])).2.length ≤ 100000 := (hga.2 _ (mem_of_take_succ a (0, []) hi2)).1
       have hrng := node_rng hga i
       have hbl := node_rng hgb (m.getD i 0).toNat
       have hkb : ((m.getD i 0).toNat : Int) = m.getD i 0 := by omega
       generalize hkd : m.getD i 0 = kk at *
       have hbe : (b.getD kk.toNat (0, [])).2 = (b.getD kk.toNat (0, [])).2 := rfl
       generalize hble : (b.getD kk.toNat (0, [])).2 = bl at hmn hbl
       generalize hae : (a.getD i (0, [])).2 = l at hmn hal2 hrng
       refine ev_loop (ι := {y : Nat × List Int // y.1 ≤ l.length ∧ MapI a b y.2 ∧ mapArcs bl (l.drop y.1) y.2 = mapArcs bl l m}) (fun y => ⟨[(3, .bp 3 [] 0), (5, .bp 5 [] 0), (8, .sr 20 T3 0 a.length), (10, .p .bool true), (13, .p T3 kk), (33, .p T23 a), (34, .p (.int .i64) (a.length : Int)), (35, .p (.int .i64) (i : Int)), (60, .p T86 l), (61, .p (.int .i64) (l.length : Int)), (62, .p (.int .i64) (y.1.1 : Int))], [(3, .box 29 true [.p T26 ht, .p T27 hf]), (5, .box 25 true [.p T23 b]), (20, .arr 3 T3 y.1.2)]⟩) (fun y => l.length - y.1.1) ⟨(0, m), Nat.zero_le _, hmI, rfl⟩ (ent_match [(3, .nm 3), (5, .nm 5), (20, .nm 20)] rfl rfl ?_ ?_) (fun y => ?_)
       ·first | exact eN | refine eM ?_
       ·first | exact eN | refine eM ?_
       ·obtain ⟨⟨j, m2⟩, hj, hmI2, hma⟩ := y
        simp only at hj hmI2 hma
        have hml2 := hmI2.len
        have hst2 := fun h : j < l.length => mapArcs_step bl l m2 h
        have hx := fun h : j < l.length => hrng _ (mem_of_take_succ l (0, 0) h)
        have htl : tgtF bl (l.getD j (0, 0)).1 < (b.length : Int) := tgtF_lt (Int.natCast_nonneg _) _ fun x hx => (hbl x hx).2
        have hmb : mapBad bl m2 (l.getD j (0, 0)) = (decide (tgtF bl (l.getD j (0, 0)).1 < 0) || decide (0 ≤ m2.getD (l.getD j (0, 0)).2.toNat 0) && !(m2.getD (l.getD j (0, 0)).2.toNat 0 == tgtF bl (l.getD j (0, 0)).1)) := rfl
        rw [← hble] at hst2 hmb hma htl
        simp only
        repeat' (first | exact trivial | refine eS rfl ?_ | refine ev_out_inv ?_ | refine rX [0, 1, 2, 3, 4, 5, 6, 7, 8, 9, 10, 11, 12, 13, 15, 16, 22, 23, 24, 33, 34, 35, 36, 58, 60, 61, 62, 63, 92, 101] hc ?_ ?_ | (refine rC (fun hcond => ?_) (fun hcond => ?_) <;> try (cases hcond; done)))
        ·exact hcond
        ·exact ⟨hk0, hk1⟩
        ·have hj2 : j < l.length := Int.ofNat_lt.1 hcond
         exact ⟨fun _ => hx hj2, fun _ => hx hj2⟩
        ·have hj2 : j < l.length := Int.ofNat_lt.1 (by assumption)
         have hbad2 : mapBad (b.getD kk.toNat (0, [])).2 m2 (l.getD j (0, 0)) = true := by
          rw [hmb, Bool.or_eq_true, Bool.and_eq_true, decide_eq_true_eq, decide_eq_true_eq, Bool.not_eq_true', beq_eq_false_iff_ne]
          assumption
         rw [hst2 hj2, if_pos hbad2] at hma
         rw [hble] at hma
         rw [← hma] at hmn
         have hmn : none = mapF (ht, hf) a b := hmn
         exact ev_fin hc [.tmp 6, .tmp 7] rfl (.inl rfl) (by simp) (by rw [← hmn]; first | exact eR | refine eRM ?_; first | rfl | exact ⟨rfl, rfl⟩)
        ·have hj2 : j < l.length := Int.ofNat_lt.1 (by assumption)
         exact hx hj2
        ·omega
        ·have hj2 : j < l.length := Int.ofNat_lt.1 (by assumption)
         have hbad2 : ¬ mapBad (b.getD kk.toNat (0, [])).2 m2 (l.getD j (0, 0)) = true := by
          rw [hmb, Bool.or_eq_true, Bool.and_eq_true, decide_eq_true_eq, decide_eq_true_eq, Bool.not_eq_true', beq_eq_false_iff_ne]
          rintro (h | ⟨h1, h2⟩)
          ·exact absurd hcond.1 (Int.not_le.2 h)
          ·have := hcond.2 h1
           rw [bne_eq_false_iff_eq] at this
           exact h2 this
         rw [hst2 hj2, if_neg hbad2] at hma
         refine ⟨⟨(j + 1, m2.set (l.getD j (0, 0)).2.toNat (tgtF (b.getD kk.toNat (0, [])).2 (l.getD j (0, 0)).1)), hj2, hmI2.set _ htl, by rw [hble] at hma ⊢; exact hma⟩, by simp only; omega, ent_match [(3, .nm 3), (5, .nm 5), (20, .nm 20)] rfl rfl ?_ ?_⟩
         ·first | exact eN | refine eM ?_
         ·first | exact eN | refine eM ?_
        ·omega
        ·have hj2 : j = l.length := by omega
         subst hj2
         rw [List.drop_length] at hma
         have hma : some m2 = mapArcs bl l m := by rw [← hble]; exact hma
         rw [← hma] at hmn
         refine ⟨⟨(i + 1, m2), hi2, hmI2, hmn⟩, by simp only; omega, ent_match [(3, .nm 3), (5, .nm 5), (20, .nm 20)] rfl rfl ?_ ?_⟩
         ·first | exact eN | refine eM ?_
         ·first | exact eN | refine eM ?_
      ·have hi2 : i = a.length := by exact eV
       subst hi2
       rw [List.drop_length] at hmn
       have hmn : some m = mapF (ht, hf) a b := hmn
       refine frzE [20] ?_
       exact ev_fin hc [.tmp 6, .tmp 7] rfl (.inl rfl) (by simp) (by rw [← hmn]; first | exact eR | refine eRM ?_; exact List.take_of_length_le (by rw [hml]; exact Nat.le_refl _))
 ·first | exact eN | refine eM ?_
 ·first | exact eN | refine eM ?_
def gsubF (h : HierD) (a b : List GNode) : Bool := (mapF h a b).isSome
def gsubS : Spec := { ins := [T29, T25, T25], pre := fun (h, a, b, _) => GoodF a ∧ 0 < List.length a ∧ GoodF b ∧ 0 < List.length b ∧ TyOk h a ∧ TyOk h b, out := fun (h, a, b, _) => [.p .bool (gsubF h a b)], lend := true }
theorem gsub_ok : FnOk Tryz.prog 48 gsubS := by
 refine fn_ok Tryz.func48 (by kernel_rfl) rfl Tryz.ntmps48 (by decide) (by kernel_rfl) (tyTab_ok [(91, mapS)]) (fns_cons map_ok fns_nil) ?_
 rintro w0 O0 ⟨⟨ht, hf⟩, a, b, u⟩ hc - hp
 simp only [gsubS, entEnv]
 repeat' (first | exact trivial | refine eS rfl ?_ | refine ev_out_inv ?_ | refine rX [0, 1, 2, 3, 4, 5, 6, 8] hc ?_ ?_ | (refine rC (fun hcond => ?_) (fun hcond => ?_) <;> try (cases hcond; done)))
 ·exact hp
 ·exact ev_fin hc [.tmp 6] rfl (.inl rfl) (by simp) (by unfold gsubF; first | exact eR | refine eRM ?_)
end
/- Plain: subsume.Map finds a map if there is one; parts subsume, and parts of what subsumes subsume parts. -/
section
structure Hom (h : HierD) (a b : List GNode) (m : Int → Int) : Prop where
 zero : m 0 = 0
 rng : ∀ i, 0 ≤ i → i < (a.length : Int) → 0 ≤ m i ∧ m i < (b.length : Int)
 ty : ∀ i, 0 ≤ i → i < (a.length : Int) → hsubF h (a.getD i.toNat (0, [])).1 (b.getD (m i).toNat (0, [])).1 = true
 arc : ∀ i, 0 ≤ i → i < (a.length : Int) → ∀ x ∈ arcsAt a i, tgtF (arcsAt b (m i)) x.1 = m x.2
theorem tgtF_arc {l : List (Int × Int)} (h : l.Pairwise (fun a b => a.1 < b.1)) {a : Int × Int} (ha : a ∈ l) : tgtF l a.1 = a.2 := by
 induction l with
 | nil => cases ha
 | cons b l ih =>
  obtain ⟨h1, h2⟩ := List.pairwise_cons.1 h
  simp only [tgtF]
  rcases List.mem_cons.1 ha with rfl | ha
  ·rw [if_pos rfl]
  ·rw [if_neg (by have := h1 a ha; omega)]
   exact ih h2 ha
theorem tgtF_mem {l : List (Int × Int)} {e : Int} (h : 0 ≤ tgtF l e) : ∃ a ∈ l, a.1 = e ∧ a.2 = tgtF l e := by
 induction l with
 | nil => simp only [tgtF] at h; omega
 | cons b l ih =>
  simp only [tgtF] at h ⊢
  split
  ·rename_i hb
   exact ⟨b, by simp, hb, rfl⟩
  ·rename_i hb
   rw [if_neg hb] at h
   obtain ⟨a, ha, e1, e2⟩ := ih h
   exact ⟨a, by simp [ha], e1, e2⟩
theorem tgt_in {f : List GNode} (hs : SrtF f) {n : Int} {a : Int × Int} (ha : a ∈ arcsAt f n) : tgtF (arcsAt f n) a.1 = a.2 := tgtF_arc (srt_arcs hs n) ha
def RO (f : List GNode) : Prop := ∀ i : Int, 0 < i → i < (f.length : Int) → ∃ j, 0 ≤ j ∧ j < i ∧ ∃ x ∈ arcsAt f j, x.2 = i
/-! The map is found -/
structure MH (a : List GNode) (m : Int → Int) (M : List Int) : Prop where
 len : M.length = a.length
 val : ∀ k : Nat, k < a.length → M.getD k 0 = -1 ∨ M.getD k 0 = m (k : Int)
theorem set_get {M : List Int} {k j : Nat} {v : Int} (hk : k < M.length) : (M.set k v).getD j 0 = if k = j then v else M.getD j 0 := by
 by_cases h : k = j
 ·subst h; rw [if_pos rfl, getD_set_self _ _ _ hk]
 ·rw [if_neg h, getD_set_ne _ _ _ h]
theorem arcs_hom {a : List GNode} (ha : GoodF a) {m : Int → Int} {n : Int} (hm : ∀ i, 0 ≤ i → i < (a.length : Int) → 0 ≤ m i) {bl : List (Int × Int)} : ∀ {l : List (Int × Int)} {M : List Int}, (∀ x ∈ l, x ∈ arcsAt a n) → (∀ x ∈ l, tgtF bl x.1 = m x.2) → MH a m M →
  ∃ M', mapArcs bl l M = some M' ∧ MH a m M' ∧ (∀ k : Nat, k < a.length → M.getD k 0 = m (k : Int) → M'.getD k 0 = m (k : Int)) ∧ ∀ x ∈ l, M'.getD x.2.toNat 0 = m x.2
 | [], M, _, _, h => ⟨M, rfl, h, fun _ _ h => h, fun x hx => by cases hx⟩
 | x :: l, M, hl, ht, h => by
  have hr := arcs_in' ha (hl x (by simp))
  have hx := ht x (by simp)
  have hmx := hm x.2 hr.1 hr.2
  have hxl : x.2.toNat < a.length := by omega
  have hxe : ((x.2.toNat : Nat) : Int) = x.2 := by omega
  have hv := h.val x.2.toNat hxl
  rw [hxe] at hv
  have hbad : ¬ mapBad bl M x = true := by
   unfold mapBad
   rw [Bool.or_eq_true, Bool.and_eq_true, decide_eq_true_eq, decide_eq_true_eq, Bool.not_eq_true', beq_eq_false_iff_ne, hx]
   rintro (g | ⟨g1, g2⟩)
   ·omega
   ·rcases hv with hv | hv
    ·omega
    ·exact g2 hv
  have h2 : MH a m (M.set x.2.toNat (tgtF bl x.1)) := by
   refine ⟨by rw [List.length_set]; exact h.len, fun k hk => ?_⟩
   rw [set_get (by rw [h.len]; exact hxl)]
   split
   ·rename_i e
    right
    rw [hx, ← e, hxe]
   ·exact h.val k hk
  obtain ⟨M', e1, e2, e3, e4⟩ := arcs_hom ha hm (l := l) (fun y hy => hl y (by simp [hy])) (fun y hy => ht y (by simp [hy])) h2
  refine ⟨M', ?_, e2, fun k hk hkm => e3 k hk ?_, fun y hy => ?_⟩
  ·simp only [mapArcs]
   rw [if_neg hbad]
   exact e1
  ·rw [set_get (by rw [h.len]; exact hxl)]
   split
   ·rename_i e
    rw [hx, ← e, hxe]
   ·exact hkm
  ·rcases List.mem_cons.1 hy with rfl | hy
   ·have h9 := e3 y.2.toNat hxl (by rw [set_get (by rw [h.len]; exact hxl), if_pos rfl, hx, hxe])
    rw [hxe] at h9
    exact h9
   ·exact e4 y hy
theorem nodes_hom {h : HierD} {a b : List GNode} (ha : GoodF a) (hro : RO a) {m : Int → Int} (hm : Hom h a b m) : ∀ (r i : Nat) (M : List Int), r + i = a.length → MH a m M → (0 < a.length → M.getD 0 0 = 0) →
  (∀ k : Nat, k < a.length → (∃ j : Int, 0 ≤ j ∧ j < (i : Int) ∧ ∃ x ∈ arcsAt a j, x.2 = (k : Int)) → M.getD k 0 = m (k : Int)) → ∃ M', mapNodes h b (a.drop i) i M = some M'
 | 0, i, M, hri, _, _, _ => by
  rw [List.drop_eq_nil_of_le (by omega)]
  exact ⟨M, rfl⟩
 | r + 1, i, M, hri, hM, hM0, hMr => by
  have hi : i < a.length := by omega
  have hki : M.getD i 0 = m (i : Int) := by
   cases i with
   | zero =>
    rw [hM0 hi]
    exact hm.zero.symm
   | succ i =>
    obtain ⟨j, j0, j1, x, hx, e⟩ := hro ((i + 1 : Nat) : Int) (by omega) (by omega)
    exact hMr (i + 1) hi ⟨j, j0, j1, x, hx, e⟩
  have hr := hm.rng (i : Int) (by omega) (by omega)
  have hty := hm.ty (i : Int) (by omega) (by omega)
  have harc := hm.arc (i : Int) (by omega) (by omega)
  rw [Int.toNat_natCast] at hty
  have hbad : ¬ nodeBad h b (a.getD i (0, [])) (M.getD i 0) = true := by
   unfold nodeBad
   rw [Bool.or_eq_true, decide_eq_true_eq, Bool.not_eq_true', hki]
   rintro (g | g)
   ·omega
   ·rw [hty] at g; cases g
  rw [mapNodes_step h b a M hi, if_neg hbad, hki]
  have hai : arcsAt a (i : Int) = (a.getD i (0, [])).2 := by rw [arcsAt, Int.toNat_natCast]
  obtain ⟨M', e1, e2, e3, e4⟩ := arcs_hom (n := (i : Int)) ha (fun k g0 g1 => (hm.rng k g0 g1).1) (bl := (b.getD (m (i : Int)).toNat (0, [])).2) (l := (a.getD i (0, [])).2) (fun x hx => by rw [hai]; exact hx) (fun x hx => harc x (by rw [hai]; exact hx)) hM
  rw [e1]
  simp only
  refine nodes_hom ha hro hm r (i + 1) M' (by omega) e2 (fun g => ?_) (fun k hk hj => ?_)
  ·have := e3 0 g (by rw [hM0 g]; exact hm.zero.symm)
   rw [this]
   exact hm.zero
  ·obtain ⟨j, j0, j1, x, hx, e⟩ := hj
   by_cases hji : j < (i : Int)
   ·exact e3 k hk (hMr k hk ⟨j, j0, hji, x, hx, e⟩)
   ·have : j = (i : Int) := by omega
    subst this
    rw [hai] at hx
    have := e4 x hx
    rw [e] at this
    rw [Int.toNat_natCast] at this
    exact this
theorem gsub_of {h : HierD} {a b : List GNode} (ha : GoodF a) (h0 : 0 < a.length) (hro : RO a) {m : Int → Int} (hm : Hom h a b m) : gsubF h a b = true := by
 have hz : ((List.replicate a.length (-1 : Int)).set 0 0).getD 0 0 = 0 := by rw [set_get (by simpa using h0), if_pos rfl]
 obtain ⟨M', e⟩ := nodes_hom ha hro hm a.length 0 ((List.replicate a.length (-1)).set 0 0) (by omega) ⟨by simp, fun k hk => by
  rw [set_get (by simpa using h0)]
  split
  ·rename_i e
   right
   rw [← e]
   exact hm.zero.symm
  ·left
   simp [List.getD_eq_getElem?_getD, List.getElem?_replicate, hk]⟩ (fun _ => hz) (fun k hk hj => by
  obtain ⟨j, j0, j1, _⟩ := hj
  omega)
 unfold gsubF mapF
 rw [List.drop_zero] at e
 rw [e]
 rfl
/-! What is found is a map -/
theorem arcs_map {b : List GNode} {bl : List (Int × Int)} (hb : 0 < b.length) (hbl : ∀ x ∈ bl, x.2 < (b.length : Int)) {n : Nat} : ∀ {l : List (Int × Int)} {M M' : List Int}, (∀ x ∈ l, 0 ≤ x.2 ∧ x.2 < (n : Int)) → M.length = n → (∀ k, M.getD k 0 < (b.length : Int)) → mapArcs bl l M = some M' →
  M'.length = n ∧ (∀ k, M'.getD k 0 < (b.length : Int)) ∧ (∀ k, 0 ≤ M.getD k 0 → M'.getD k 0 = M.getD k 0) ∧ ∀ x ∈ l, 0 ≤ M'.getD x.2.toNat 0 ∧ tgtF bl x.1 = M'.getD x.2.toNat 0
 | [], M, M', _, hn, hk, h => by
  have : M = M' := Option.some.inj h
  subst this
  exact ⟨hn, hk, fun _ _ => rfl, fun x hx => by cases hx⟩
 | x :: l, M, M', hl, hn, hk, h => by
  simp only [mapArcs] at h
  split at h
  ·cases h
  ·rename_i hbad
   have hr := hl x (by simp)
   have hxl : x.2.toNat < M.length := by omega
   have htl := tgtF_lt (n := (b.length : Int)) (by omega) (l := bl) x.1 hbl
   obtain ⟨g1, g2, g3, g4⟩ := arcs_map hb hbl (l := l) (fun y hy => hl y (by simp [hy])) (by rw [List.length_set]; exact hn) (fun k => by
    rw [set_get hxl]
    split
    ·exact htl
    ·exact hk k) h
   have hb2 : 0 ≤ tgtF bl x.1 ∧ (0 ≤ M.getD x.2.toNat 0 → M.getD x.2.toNat 0 = tgtF bl x.1) := by
    unfold mapBad at hbad
    rw [Bool.or_eq_true, Bool.and_eq_true, decide_eq_true_eq, decide_eq_true_eq, Bool.not_eq_true', beq_eq_false_iff_ne] at hbad
    refine ⟨Int.not_lt.1 fun e => hbad (.inl e), fun e => Classical.byContradiction fun e2 => hbad (.inr ⟨e, e2⟩)⟩
   refine ⟨g1, g2, fun k hk0 => ?_, fun y hy => ?_⟩
   ·have h1 : (M.set x.2.toNat (tgtF bl x.1)).getD k 0 = M.getD k 0 := by
     rw [set_get hxl]
     split
     ·rename_i e
      rw [← e] at hk0 ⊢
      exact (hb2.2 hk0).symm
     ·rfl
    rw [g3 k (by rw [h1]; exact hk0), h1]
   ·rcases List.mem_cons.1 hy with rfl | hy
    ·have h1 : (M.set y.2.toNat (tgtF bl y.1)).getD y.2.toNat 0 = tgtF bl y.1 := by rw [set_get hxl, if_pos rfl]
     have h2 := g3 y.2.toNat (by rw [h1]; exact hb2.1)
     rw [h1] at h2
     exact ⟨by rw [h2]; exact hb2.1, h2.symm⟩
    ·exact g4 y hy
theorem nodes_map {hd : HierD} {a b : List GNode} (ha : GoodF a) (hb : GoodF b) (hb0 : 0 < b.length) : ∀ (r i : Nat) (M M' : List Int), r + i = a.length → M.length = a.length → (∀ k, M.getD k 0 < (b.length : Int)) → mapNodes hd b (a.drop i) i M = some M' →
  (∀ k, M'.getD k 0 < (b.length : Int)) ∧ (∀ k, 0 ≤ M.getD k 0 → M'.getD k 0 = M.getD k 0) ∧ ∀ k : Nat, i ≤ k → k < a.length → 0 ≤ M'.getD k 0 ∧ hsubF hd (a.getD k (0, [])).1 (b.getD (M'.getD k 0).toNat (0, [])).1 = true ∧ ∀ x ∈ (a.getD k (0, [])).2, 0 ≤ M'.getD x.2.toNat 0 ∧ tgtF (b.getD (M'.getD k 0).toNat (0, [])).2 x.1 = M'.getD x.2.toNat 0
 | 0, i, M, M', hri, _, hk, h => by
  rw [List.drop_eq_nil_of_le (by omega)] at h
  have : M = M' := Option.some.inj h
  subst this
  exact ⟨hk, fun _ _ => rfl, fun k h1 h2 => by omega⟩
 | r + 1, i, M, M', hri, hn, hk, h => by
  have hi : i < a.length := by omega
  rw [mapNodes_step hd b a M hi] at h
  split at h
  ·cases h
  ·rename_i hbad
   have hb2 : 0 ≤ M.getD i 0 ∧ hsubF hd (a.getD i (0, [])).1 (b.getD (M.getD i 0).toNat (0, [])).1 = true := by
    unfold nodeBad at hbad
    rw [Bool.or_eq_true, decide_eq_true_eq, Bool.not_eq_true'] at hbad
    refine ⟨Int.not_lt.1 fun e => hbad (.inl e), ?_⟩
    cases hh : hsubF hd (a.getD i (0, [])).1 (b.getD (M.getD i 0).toNat (0, [])).1 with
    | true => rfl
    | false => exact absurd (.inr hh) hbad
   cases hma : mapArcs (b.getD (M.getD i 0).toNat (0, [])).2 (a.getD i (0, [])).2 M with
   | none => rw [hma] at h; cases h
   | some M1 =>
    rw [hma] at h
    simp only at h
    obtain ⟨g1, g2, g3, g4⟩ := arcs_map hb0 (fun x hx => (node_rng hb _ x hx).2) (n := a.length) (fun x hx => node_rng ha i x hx) hn hk hma
    obtain ⟨k1, k2, k3⟩ := nodes_map ha hb hb0 r (i + 1) M1 M' (by omega) g1 g2 h
    have hkeep : ∀ k, 0 ≤ M.getD k 0 → M'.getD k 0 = M.getD k 0 := fun k hk0 => by
     have := g3 k hk0
     rw [k2 k (by rw [this]; exact hk0), this]
    refine ⟨k1, hkeep, fun k h1 h2 => ?_⟩
    by_cases hki : k = i
    ·subst hki
     rw [hkeep k hb2.1]
     refine ⟨hb2.1, hb2.2, fun x hx => ?_⟩
     obtain ⟨e1, e2⟩ := g4 x hx
     have := k2 x.2.toNat e1
     rw [this]
     exact ⟨e1, e2⟩
    ·exact k3 k (by omega) h2
theorem hom_of {h : HierD} {a b : List GNode} (ha : GoodF a) (ha0 : 0 < a.length) (hb : GoodF b) (hb0 : 0 < b.length) (hg : gsubF h a b = true) : ∃ m, Hom h a b m := by
 unfold gsubF mapF at hg
 cases hm : mapNodes h b a 0 ((List.replicate a.length (-1)).set 0 0) with
 | none => rw [hm] at hg; cases hg
 | some M =>
  have hz : ((List.replicate a.length (-1 : Int)).set 0 0).getD 0 0 = 0 := by rw [set_get (by simpa using ha0), if_pos rfl]
  obtain ⟨k1, k2, k3⟩ := nodes_map ha hb hb0 a.length 0 ((List.replicate a.length (-1)).set 0 0) M (by omega) (by simp) (fun k => by
   rw [set_get (by simpa using ha0)]
   split
   ·omega
   ·rw [List.getD_eq_getElem?_getD, List.getElem?_replicate]
    split
    ·show (-1 : Int) < _; omega
    ·show (0 : Int) < _; omega) (by rw [List.drop_zero]; exact hm)
  have hM0 := k2 0 (by rw [hz]; omega)
  rw [hz] at hM0
  refine ⟨fun i => M.getD i.toNat 0, hM0, fun i g0 g1 => ⟨(k3 i.toNat (by omega) (by omega)).1, k1 _⟩, fun i g0 g1 => (k3 i.toNat (by omega) (by omega)).2.1, fun i g0 g1 x hx => ((k3 i.toNat (by omega) (by omega)).2.2 x hx).2⟩
/-! A canonical form is led through in order -/
theorem dfs_lead {f : List GNode} (hf : GoodF f) : ∀ (k : Nat) (t : List Int) (n : Int), DOk f t → 0 ≤ n → n < f.length → n ∉ t →
  ∀ q, t.length < q → q < (dfs f k t n).length → ∃ j, j < q ∧ ∃ a ∈ arcsAt f ((dfs f k t n).getD j 0), a.2 = (dfs f k t n).getD q 0
 | 0, t, n, h, h0, h1, h2, q, hq1, hq2 => by simp only [dfs] at hq2; omega
 | k + 1, t, n, h, h0, h1, h2, q, hq1, hq2 => by
  have key : ∀ (l : List (Int × Int)) (u : List Int), (∀ a ∈ l, a ∈ arcsAt f n) → DOk f u → t ++ [n] <+: u →
    (∀ q, t.length < q → q < u.length → ∃ j, j < q ∧ ∃ a ∈ arcsAt f (u.getD j 0), a.2 = u.getD q 0) →
    ∀ q, t.length < q → q < (l.foldl (stepD f k) u).length → ∃ j, j < q ∧ ∃ a ∈ arcsAt f ((l.foldl (stepD f k) u).getD j 0), a.2 = (l.foldl (stepD f k) u).getD q 0 := by
   intro l
   induction l with
   | nil => intro u _ _ _ hu q g1 g2; exact hu q g1 g2
   | cons a l ih =>
    intro u hl hu hpre hlead
    have ha := hl a (by simp)
    have hr := arcs_in' hf ha
    rw [List.foldl_cons]
    by_cases hm : a.2 ∈ u
    ·have hs : stepD f k u a = u := by unfold stepD; rw [if_pos hm]
     rw [hs]
     exact ih u (fun b hb => hl b (by simp [hb])) hu hpre hlead
    ·have hs : stepD f k u a = dfs f k u a.2 := by unfold stepD; rw [if_neg hm]
     rw [hs]
     obtain ⟨d1, d2⟩ := dfs_ok hf k u a.2 hu hr.1 hr.2 hm
     have hget : ∀ j, j < u.length → (dfs f k u a.2).getD j 0 = u.getD j 0 := fun j hj => by
      obtain ⟨v, hv⟩ := d2
      rw [← hv]
      simp only [List.getD_eq_getElem?_getD]
      rw [List.getElem?_append_left hj]
     have hun : u.getD t.length 0 = n := by
      obtain ⟨v, hv⟩ := hpre
      rw [← hv]
      simp [List.getD_eq_getElem?_getD]
     have hul : t.length < u.length := by
      have := hpre.length_le
      simp at this
      omega
     refine ih (dfs f k u a.2) (fun b hb => hl b (by simp [hb])) d1 (hpre.trans d2) (fun q g1 g2 => ?_)
     by_cases hq : q < u.length
     ·obtain ⟨j, j1, b, hb, e⟩ := hlead q g1 hq
      refine ⟨j, j1, b, ?_, ?_⟩
      ·rw [hget j (by omega)]; exact hb
      ·rw [hget q hq]; exact e
     ·by_cases hq2 : q = u.length
      ·subst hq2
       refine ⟨t.length, hul, a, ?_, ?_⟩
       ·rw [hget _ hul, hun]; exact ha
       ·cases k with
        | zero => simp only [dfs] at g2; omega
        | succ k =>
         have hp : u ++ [a.2] <+: dfs f (k + 1) u a.2 := by
          rw [dfs_succ]
          exact (foldD_ok (dfs_ok hf k) _ _ (fun b hb => arcs_in' hf hb) (hu.snoc hr.1 hr.2 hm)).2
         obtain ⟨v, hv⟩ := hp
         rw [← hv]
         simp [List.getD_eq_getElem?_getD]
      ·exact dfs_lead hf k u a.2 hu hr.1 hr.2 hm q (by omega) g2
  rw [dfs_succ] at hq2 ⊢
  exact key _ (t ++ [n]) (fun a ha => ha) (h.snoc h0 h1 h2) (List.prefix_refl _) (fun q g1 g2 => by simp only [List.length_append, List.length_singleton] at g2; omega) q hq1 hq2
theorem part_RO {f : List GNode} (hf : GoodF f) (hs : SrtF f) (h0 : 0 < f.length) (acc : Int → Int × Int → Bool) : RO (partF acc f) := by
 obtain ⟨hPg, hPs⟩ := part_good hf hs acc
 have hPl := partL_len acc f f.length
 have ho := ord_of hPg (by omega)
 have hcl := canon_len (partL acc f f.length)
 have hlead := dfs_lead hPg (partL acc f f.length).length [] 0 (dOk_nil _) (by omega) (by omega) (by simp)
 have har := fun n hn => part_arcs hf hs h0 acc (n := n) hn
 rw [hPl] at ho hcl hlead
 have hpf : (partF acc f).length = (dfs (partL acc f f.length) f.length [] 0).length := hcl
 intro i g0 g1
 rw [hpf] at g1
 generalize dfs (partL acc f f.length) f.length [] 0 = o at *
 obtain ⟨j, j1, a, ha, e⟩ := hlead i.toNat (by simp only [List.length_nil]; omega) (by omega)
 have hjm : o.getD j 0 ∈ o := mem_of_take_succ _ 0 (by omega)
 have hr := ho.ok.rng _ hjm
 rw [hPl] at hr
 rw [arcsAt, part_get acc hr.1 hr.2] at ha
 refine ⟨(j : Int), by omega, by omega, renD o a, ?_, ?_⟩
 ·have := har _ hjm
  rw [idxZ_get ho.ok.nd (by omega)] at this
  rw [this]
  exact List.mem_map.2 ⟨a, ha, rfl⟩
 ·show idxZ o a.2 = i
  rw [e, idxZ_get ho.ok.nd (by omega)]
  omega
/-! Types -/
theorem subPF_refl (x : List Int) : subPF x x = true := by
 unfold subPF
 rw [List.all_eq_true]
 intro i hi
 rw [wordF_nat, beq_iff_eq]
 exact andNot_self
theorem hsub_refl (h : HierD) (t : Int) : hsubF h t t = true := subPF_refl _
theorem part_node {f : List GNode} (hf : GoodF f) (hs : SrtF f) (h0 : 0 < f.length) (acc : Int → Int × Int → Bool) {i : Int} (g0 : 0 ≤ i) (g1 : i < ((partF acc f).length : Int)) :
  ∃ n ∈ dfs (partL acc f f.length) f.length [] 0, idxZ (dfs (partL acc f f.length) f.length [] 0) n = i ∧ (dfs (partL acc f f.length) f.length [] 0).getD i.toNat 0 = n ∧ 0 ≤ n ∧ n < (f.length : Int) ∧ ((partF acc f).getD i.toNat (0, [])).1 = (f.getD n.toNat (0, [])).1 := by
 obtain ⟨hPg, hPs⟩ := part_good hf hs acc
 have hPl := partL_len acc f f.length
 have ho := ord_of hPg (by omega)
 have hcl := canon_len (partL acc f f.length)
 have hg := fun i => canon_get (f := partL acc f f.length) (i := i)
 rw [hPl] at ho hcl hg
 have hpf : (partF acc f).length = (dfs (partL acc f f.length) f.length [] 0).length := hcl
 rw [hpf] at g1
 have hi : i.toNat < (dfs (partL acc f f.length) f.length [] 0).length := by omega
 have hm : (dfs (partL acc f f.length) f.length [] 0).getD i.toNat 0 ∈ dfs (partL acc f f.length) f.length [] 0 := mem_of_take_succ _ 0 hi
 have hr := ho.ok.rng _ hm
 rw [hPl] at hr
 refine ⟨_, hm, ?_, rfl, hr.1, hr.2, ?_⟩
 ·rw [idxZ_get ho.ok.nd hi]; omega
 ·have : partF acc f = canonicalF (partL acc f f.length) 0 := rfl
  rw [this, hg _ hi]
  unfold nodeD
  rw [part_get acc hr.1 hr.2]
theorem part_ty {h : HierD} {f : List GNode} (hf : GoodF f) (hs : SrtF f) (h0 : 0 < f.length) (ht : TyOk h f) (acc : Int → Int × Int → Bool) : TyOk h (partF acc f) := by
 intro x hx
 obtain ⟨i, hi, rfl⟩ := mem_getD (0, []) hx
 obtain ⟨n, -, -, -, n0, n1, e⟩ := part_node hf hs h0 acc (i := (i : Int)) (by omega) (by omega)
 rw [Int.toNat_natCast] at e
 rw [e]
 exact ht _ (mem_of_take_succ f (0, []) (by omega))
theorem part_mono {h : HierD} {f g : List GNode} (hf : GoodF f) (hs : SrtF f) (h0 : 0 < f.length) (kf : GoodF g) (ks : SrtF g) (k0 : 0 < g.length) {m : Int → Int} (hm : Hom h f g m) (acc bcc : Int → Int × Int → Bool)
  (hab : ∀ n, (∃ p, walkF f 0 p = some n) → 0 ≤ n → n < (f.length : Int) → ∀ a ∈ arcsAt f n, acc n a = true → bcc (m n) (a.1, m a.2) = true) : gsubF h (partF acc f) (partF bcc g) = true := by
 obtain ⟨hcg, hcs, hc0, -⟩ := part_good2 hf hs h0 acc
 obtain ⟨kcg, kcs, kc0, -⟩ := part_good2 kf ks k0 bcc
 have hnode := fun i g0 g1 => part_node hf hs h0 acc (i := i) g0 g1
 have har := fun n hn => part_arcs hf hs h0 acc (n := n) hn
 have kar := fun n hn => part_arcs kf ks k0 bcc (n := n) hn
 obtain ⟨hPg, hPs⟩ := part_good hf hs acc
 have hPl := partL_len acc f f.length
 have ho := ord_of hPg (by omega)
 rw [hPl] at ho
 obtain ⟨kPg, kPs⟩ := part_good kf ks bcc
 have kPl := partL_len bcc g g.length
 have ko := ord_of kPg (by omega)
 rw [kPl] at ko
 have harc : ∀ n, 0 ≤ n → n < (f.length : Int) → ∀ a ∈ arcsAt f n, (a.1, m a.2) ∈ arcsAt g (m n) := by
  intro n n0 n1 a ha
  have h1 := hm.arc n n0 n1 a ha
  have hr := arcs_in' hf ha
  obtain ⟨b, hb, e1, e2⟩ := tgtF_mem (l := arcsAt g (m n)) (e := a.1) (by rw [h1]; exact (hm.rng _ hr.1 hr.2).1)
  rw [h1] at e2
  rw [← e1, ← e2]
  exact hb
 have hreach : ∀ n ∈ dfs (partL acc f f.length) f.length [] 0, (∃ p, walkF f 0 p = some n) ∧ m n ∈ dfs (partL bcc g g.length) g.length [] 0 := by
  have : ∀ n ∈ dfs (partL acc f f.length) f.length [] 0, 0 ≤ n ∧ n < (f.length : Int) ∧ (∃ p, walkF f 0 p = some n) ∧ m n ∈ dfs (partL bcc g g.length) g.length [] 0 := by
   refine dfs_pred ⟨by omega, by omega, ⟨[], rfl⟩, by rw [hm.zero]; exact ko.mem0⟩ ?_ f.length
   rintro x ⟨x0, x1, ⟨p, hp⟩, hx⟩ a ha
   rw [arcsAt, part_get acc x0 x1] at ha
   obtain ⟨ha1, ha2⟩ := List.mem_filter.1 ha
   have hr := arcs_in' hf ha1
   have hmx := hm.rng x x0 x1
   refine ⟨hr.1, hr.2, ⟨_, walk_arc hf hs hp ha1⟩, ?_⟩
   refine ko.cl (m x) hx (a.1, m a.2) ?_
   rw [arcsAt, part_get bcc hmx.1 hmx.2]
   exact List.mem_filter.2 ⟨harc x x0 x1 a ha1, hab x ⟨p, hp⟩ x0 x1 a ha1 ha2⟩
  exact fun n hn => (this n hn).2.2
 have hpf : (partF bcc g).length = (dfs (partL bcc g g.length) g.length [] 0).length := by
  have := canon_len (partL bcc g g.length)
  rw [kPl] at this
  exact this
 refine gsub_of hcg hc0 (part_RO hf hs h0 acc) (m := fun i => idxZ (dfs (partL bcc g g.length) g.length [] 0) (m ((dfs (partL acc f f.length) f.length [] 0).getD i.toNat 0))) ⟨?_, fun i g0 g1 => ?_, fun i g0 g1 => ?_, fun i g0 g1 x hx => ?_⟩
 ·show idxZ _ (m ((dfs (partL acc f f.length) f.length [] 0).getD 0 0)) = 0
  rw [ho.zero.1, hm.zero]
  have := idxZ_get ko.ok.nd ko.zero.2
  rw [ko.zero.1] at this
  exact this
 ·obtain ⟨n, hn, e1, e2, n0, n1, e3⟩ := hnode i g0 g1
  try simp only
  rw [e2, hpf]
  have := get_idxZ (hreach n hn).2
  exact ⟨this.1, this.2.1⟩
 ·obtain ⟨n, hn, e1, e2, n0, n1, e3⟩ := hnode i g0 g1
  try simp only
  rw [e2, e3]
  have hz := get_idxZ (hreach n hn).2
  obtain ⟨n', -, -, e2', -, -, e3'⟩ := part_node kf ks k0 bcc (i := idxZ (dfs (partL bcc g g.length) g.length [] 0) (m n)) hz.1 (by rw [hpf]; exact hz.2.1)
  rw [hz.2.2] at e2'
  rw [e3', ← e2']
  exact hm.ty n n0 n1
 ·obtain ⟨n, hn, e1, e2, n0, n1, e3⟩ := hnode i g0 g1
  try simp only
  rw [e2]
  rw [← e1, har n hn] at hx
  obtain ⟨a, ha, rfl⟩ := List.mem_map.1 hx
  obtain ⟨ha1, ha2⟩ := List.mem_filter.1 ha
  have hin : a.2 ∈ dfs (partL acc f f.length) f.length [] 0 := ho.cl n hn a (by rw [arcsAt, part_get acc n0 n1]; exact ha)
  have hz := (get_idxZ hin).2.2
  show tgtF (arcsAt (partF bcc g) (idxZ (dfs (partL bcc g g.length) g.length [] 0) (m n))) a.1 = idxZ _ (m ((dfs (partL acc f f.length) f.length [] 0).getD (idxZ (dfs (partL acc f f.length) f.length [] 0) a.2).toNat 0))
  rw [hz]
  have hb := hab n (hreach n hn).1 n0 n1 a ha1 ha2
  have hin2 : renD (dfs (partL bcc g g.length) g.length [] 0) (a.1, m a.2) ∈ arcsAt (partF bcc g) (idxZ (dfs (partL bcc g g.length) g.length [] 0) (m n)) := by
   rw [kar _ (hreach n hn).2]
   exact List.mem_map.2 ⟨_, List.mem_filter.2 ⟨harc n n0 n1 a ha1, hb⟩, rfl⟩
  exact tgt_in kcs hin2
theorem pdrop_mono {h : HierD} {f g : List GNode} (hf : GoodF f) (hs : SrtF f) (h0 : 0 < f.length) (kf : GoodF g) (ks : SrtF g) (k0 : 0 < g.length) {m : Int → Int} (hm : Hom h f g m) (A : List Int) : gsubF h (pdropF f A) (pdropF g A) = true :=
 part_mono hf hs h0 kf ks k0 hm _ _ fun _ _ _ _ _ _ h => h
end
/- Plain: a forest of representatives; a path halved leaves the representatives as they are. -/
section
abbrev par (p : List Int) (n : Int) : Int := p.getD n.toNat 0
structure Fo (p : List Int) (rk : Int → Nat) : Prop where
 rng : ∀ n, 0 ≤ n → n < (p.length : Int) → 0 ≤ par p n ∧ par p n < (p.length : Int)
 dec : ∀ n, 0 ≤ n → n < (p.length : Int) → par p n ≠ n → rk (par p n) < rk n
inductive Rt (p : List Int) : Int → Int → Prop
 | base {n : Int} (h : par p n = n) : Rt p n n
 | step {n r : Int} (h : par p n ≠ n) (h2 : Rt p (par p n) r) : Rt p n r
theorem Rt.det {p : List Int} {n r s : Int} (h : Rt p n r) (g : Rt p n s) : r = s := by
 induction h with
 | base h =>
  cases g with
  | base g => rfl
  | step g _ => exact absurd h g
 | step h _ ih =>
  cases g with
  | base g => exact absurd g h
  | step _ g2 => exact ih g2
theorem Rt.root {p : List Int} {n r : Int} (h : Rt p n r) : par p r = r := by
 induction h with
 | base h => exact h
 | step _ _ ih => exact ih
theorem Fo.ex {p : List Int} {rk : Int → Nat} (h : Fo p rk) : ∀ (k : Nat) (n : Int), rk n ≤ k → 0 ≤ n → n < (p.length : Int) → ∃ r, Rt p n r ∧ 0 ≤ r ∧ r < (p.length : Int)
 | 0, n, hk, h0, h1 => by
  by_cases e : par p n = n
  ·exact ⟨n, .base e, h0, h1⟩
  ·have := h.dec n h0 h1 e
   omega
 | k + 1, n, hk, h0, h1 => by
  by_cases e : par p n = n
  ·exact ⟨n, .base e, h0, h1⟩
  ·have hd := h.dec n h0 h1 e
   have hr := h.rng n h0 h1
   obtain ⟨r, g1, g2, g3⟩ := h.ex k (par p n) (by omega) hr.1 hr.2
   exact ⟨r, .step e g1, g2, g3⟩
theorem Fo.root {p : List Int} {rk : Int → Nat} (h : Fo p rk) {n : Int} (h0 : 0 ≤ n) (h1 : n < (p.length : Int)) : ∃ r, Rt p n r ∧ 0 ≤ r ∧ r < (p.length : Int) := h.ex (rk n) n (Nat.le_refl _) h0 h1
theorem par_set {p : List Int} {n v : Int} (h0 : 0 ≤ n) (h1 : n < (p.length : Int)) (x : Int) (hx : 0 ≤ x) : par (p.set n.toNat v) x = if x = n then v else par p x := by
 unfold par
 rw [set_get (by omega)]
 by_cases e : x = n
 ·subst e; rw [if_pos rfl, if_pos rfl]
 ·rw [if_neg (by omega), if_neg e]
def halve (p : List Int) (n : Int) : List Int := p.set n.toNat (par p (par p n))
theorem halve_len (p : List Int) (n : Int) : (halve p n).length = p.length := by simp [halve]
theorem halve_fo {p : List Int} {rk : Int → Nat} (h : Fo p rk) {n : Int} (h0 : 0 ≤ n) (h1 : n < (p.length : Int)) (hn : par p n ≠ n) : Fo (halve p n) rk := by
 have hr := h.rng n h0 h1
 have hr2 := h.rng _ hr.1 hr.2
 have hd := h.dec n h0 h1 hn
 have hle : rk (par p (par p n)) ≤ rk (par p n) := by
  by_cases e : par p (par p n) = par p n
  ·rw [e]; exact Nat.le_refl _
  ·exact Nat.le_of_lt (h.dec _ hr.1 hr.2 e)
 refine ⟨fun x x0 x1 => ?_, fun x x0 x1 hx => ?_⟩
 ·rw [halve_len] at x1 ⊢
  unfold halve
  rw [par_set h0 h1 x x0]
  split
  ·exact hr2
  ·exact h.rng x x0 x1
 ·rw [halve_len] at x1
  unfold halve at hx ⊢
  rw [par_set h0 h1 x x0] at hx ⊢
  split
  ·rename_i e
   subst e
   omega
  ·rename_i e
   rw [if_neg e] at hx
   exact h.dec x x0 x1 hx
theorem halve_rt {p : List Int} {rk : Int → Nat} (h : Fo p rk) {n : Int} (h0 : 0 ≤ n) (h1 : n < (p.length : Int)) (hn : par p n ≠ n) : ∀ (k : Nat) (x r : Int), rk x ≤ k → 0 ≤ x → x < (p.length : Int) → Rt p x r → Rt (halve p n) x r := by
 intro k
 induction k with
 | zero =>
  intro x r hk x0 x1 hx
  have e : par p x = x := Classical.byContradiction fun e => by have := h.dec x x0 x1 e; omega
  have hxn : x ≠ n := fun e2 => hn (e2 ▸ e)
  have := hx.det (.base e)
  rw [this]
  refine .base ?_
  unfold halve
  rw [par_set h0 h1 x x0, if_neg hxn]
  exact e
 | succ k ih =>
  intro x r hk x0 x1 hx
  by_cases e : par p x = x
  ·have hxn : x ≠ n := fun e2 => hn (e2 ▸ e)
   have := hx.det (.base e)
   rw [this]
   refine .base ?_
   unfold halve
   rw [par_set h0 h1 x x0, if_neg hxn]
   exact e
  ·have hd := h.dec x x0 x1 e
   have hr := h.rng x x0 x1
   have hx2 : Rt p (par p x) r := by
    cases hx with
    | base g => exact absurd g e
    | step _ g => exact g
   by_cases hxn : x = n
   ·subst hxn
    by_cases e2 : par p (par p x) = par p x
    ·have := hx2.det (.base e2)
     rw [this] at hx2 ⊢
     refine .step (r := par p x) ?_ ?_
     ·unfold halve
      rw [par_set h0 h1 x x0, if_pos rfl, e2]
      exact e
     ·have hp : par (halve p x) x = par p x := by
       unfold halve
       rw [par_set h0 h1 x x0, if_pos rfl, e2]
      rw [hp]
      exact ih _ _ (by omega) hr.1 hr.2 hx2
    ·have hd2 := h.dec _ hr.1 hr.2 e2
     have hr2 := h.rng _ hr.1 hr.2
     have hx3 : Rt p (par p (par p x)) r := by
      cases hx2 with
      | base g => exact absurd g e2
      | step _ g => exact g
     have hp : par (halve p x) x = par p (par p x) := by
      unfold halve
      rw [par_set h0 h1 x x0, if_pos rfl]
     refine .step ?_ ?_
     ·rw [hp]
      intro e3
      rw [e3] at hd2
      omega
     ·rw [hp]
      exact ih _ _ (by omega) hr2.1 hr2.2 hx3
   ·have hp : par (halve p n) x = par p x := by
     unfold halve
     rw [par_set h0 h1 x x0, if_neg hxn]
    refine .step ?_ ?_
    ·rw [hp]; exact e
    ·rw [hp]
     exact ih _ _ (by omega) hr.1 hr.2 hx2
def SameRt (p q : List Int) : Prop := p.length = q.length ∧ ∀ x r, 0 ≤ x → x < (p.length : Int) → (Rt p x r ↔ Rt q x r)
theorem SameRt.refl (p : List Int) : SameRt p p := ⟨rfl, fun _ _ _ _ => Iff.rfl⟩
theorem SameRt.trans {p q s : List Int} (h : SameRt p q) (g : SameRt q s) : SameRt p s :=
 ⟨h.1.trans g.1, fun x r x0 x1 => (h.2 x r x0 x1).trans (g.2 x r x0 (by rw [← h.1]; exact x1))⟩
theorem halve_same {p : List Int} {rk : Int → Nat} (h : Fo p rk) {n : Int} (h0 : 0 ≤ n) (h1 : n < (p.length : Int)) (hn : par p n ≠ n) : SameRt p (halve p n) := by
 refine ⟨(halve_len p n).symm, fun x r x0 x1 => ⟨fun hx => halve_rt h h0 h1 hn _ x r (Nat.le_refl _) x0 x1 hx, fun hx => ?_⟩⟩
 obtain ⟨s, hs, -, -⟩ := h.root x0 x1
 have := halve_rt h h0 h1 hn _ x s (Nat.le_refl _) x0 x1 hs
 have e := this.det hx
 rw [← e]
 exact hs
end
/- Functions of unify.classes: find, add. -/
section
def clO (h : HierD) (p ty : List Int) (ar : List (List (Int × Int))) : List (Nat × Obj) := [(1, .box 94 true [.p T29 h, .sr 2 T3 0 p.length, .sr 3 T3 0 ty.length, .sr 4 T86 0 ar.length]), (2, .arr 3 T3 p), (3, .arr 3 T3 ty), (4, .arr 86 T86 ar)]
theorem find_ok (h : HierD) (ty : List Int) (ar : List (List (Int × Int))) (rk : Int → Nat) {p : List Int} (hp : Fo p rk) {n : Int} (h0 : 0 ≤ n) (h1 : n < (p.length : Int)) : CallM Tryz.prog 102 [.bp 1 [] 0, .p T3 n] (clO h p ty ar) [1]
  (fun res objs' => ∃ (p' : List Int) (r : Int), res = .p T3 r ∧ objs' = clO h p' ty ar ∧ Fo p' rk ∧ SameRt p p' ∧ Rt p n r) := by
 refine fnM_ok Tryz.func102 (by kernel_rfl) rfl Tryz.ntmps102 (by simp only [List.length_cons, List.length_nil]; omega) (by kernel_rfl) rfl rfl (tyTab_ok []) fns_nil ?_
 intro w0 K O0 ρ0 hc hok1 hok2
 simp only [argEnv, clO]
 repeat' (first | exact trivial | refine eS rfl ?_ | refine ev_out_inv ?_ | refine rX [0, 1, 4, 13] hc ?_ ?_ | (refine rC (fun hcond => ?_) (fun hcond => ?_) <;> try (cases hcond; done)))
 refine ev_loop (ι := {x : List Int × Int // Fo x.1 rk ∧ SameRt p x.1 ∧ 0 ≤ x.2 ∧ x.2 < (p.length : Int) ∧ (∀ r, Rt x.1 x.2 r → Rt p n r)}) (fun x => ⟨[(0, .bp 1 [] 0), (1, .p T3 x.1.2)], [(1, .box 94 true [.p T29 h, .sr 2 T3 0 p.length, .sr 3 T3 0 ty.length, .sr 4 T86 0 ar.length]), (2, .arr 3 T3 x.1.1), (3, .arr 3 T3 ty), (4, .arr 86 T86 ar)]⟩) (fun x => rk x.1.2) ⟨(p, n), hp, SameRt.refl p, h0, h1, fun _ g => g⟩ (ent_match [(1, .nm 1), (2, .nm 2), (3, .nm 3), (4, .nm 4)] rfl rfl ?_ ?_) (fun x => ?_)
 ·first | exact eN | refine eM ?_
 ·first | exact eN | refine eM ?_
 ·obtain ⟨⟨q, m⟩, hq, hs, m0, m1, hrt⟩ := x
  simp only at hq hs m0 m1 hrt
  have hql : q.length = p.length := hs.1.symm
  have hr := hq.rng m m0 (by omega)
  simp only
  repeat' (first | exact trivial | refine eS rfl ?_ | refine ev_out_inv ?_ | refine rX [0, 1, 4, 13] hc ?_ ?_ | (refine rC (fun hcond => ?_) (fun hcond => ?_) <;> try (cases hcond; done)))
  ·exact ⟨m0, m1⟩
  ·exact ⟨⟨m0, m1⟩, ⟨hr.1, by rw [← hql]; exact hr.2⟩, m0, m1⟩
  ·exact ⟨m0, m1⟩
  ·have hne : par q m ≠ m := hcond
   have hd := hq.dec m m0 (by omega) hne
   have hr2 := hq.rng _ hr.1 hr.2
   have hd2 : rk (par q (par q m)) ≤ rk (par q m) := by
    by_cases e : par q (par q m) = par q m
    ·rw [e]; exact Nat.le_refl _
    ·exact Nat.le_of_lt (hq.dec _ hr.1 hr.2 e)
   have hsm := halve_same hq m0 (by omega) hne
   have hpm : par (halve q m) m = par q (par q m) := by
    unfold halve
    rw [par_set m0 (by omega) m m0, if_pos rfl]
   refine ⟨⟨(halve q m, par q (par q m)), halve_fo hq m0 (by omega) hne, hs.trans hsm, hr2.1, by rw [← hql]; exact hr2.2, fun r hr3 => hrt r ?_⟩, by simp only; omega, ent_match [(1, .nm 1), (2, .nm 2), (3, .nm 3), (4, .nm 4)] rfl rfl ?_ ?_⟩
   ·refine (hsm.2 m r m0 (by omega)).2 (.step ?_ ?_)
    ·rw [hpm]
     intro e
     rw [e] at hd2
     omega
    ·rw [hpm]
     exact hr3
   ·first | exact eN | refine eM ?_
    rfl
   ·first | exact eN | refine eM ?_
    exact hpm
  ·have he : par q m = m := by simpa using hcond
   refine Ev.ent (σ' := ⟨[(4, .p T3 m)], clO h q ty ar⟩) ?_ (ent_match [(1, .nm 1), (2, .nm 2), (3, .nm 3), (4, .nm 4)] rfl rfl ?_ ?_)
   ·exact ev_finM hc [.tmp 4] rfl (.inl rfl) (.p T3 m) eT ⟨q, m, rfl, rfl, hq, hs, hrt m (.base he)⟩
   ·unfold clO
    rw [hql]
    first | exact eN | refine eM ?_
   ·first | exact eN | refine eM ?_
end
/- Functions of unify.classes: add. -/
section
def numsG (b n : Nat) : List Int := (List.range n).map fun i => ((b + i : Nat) : Int)
def shiftA (b : Nat) (l : List (Int × Int)) : List (Int × Int) := l.map fun a => (a.1, a.2 + (b : Int))
def typesG (l : List GNode) (n : Nat) : List Int := (l.take n).map fun x => x.1
def arcsU (b : Nat) (l : List GNode) (n : Nat) : List (List (Int × Int)) := (l.take n).map fun x => shiftA b x.2
theorem numsG_succ (b n : Nat) : numsG b (n + 1) = numsG b n ++ [((b + n : Nat) : Int)] := by simp [numsG, List.range_succ]
theorem numsG_len (b n : Nat) : (numsG b n).length = n := by simp [numsG]
theorem add_ok (h : HierD) (p ty : List Int) (ar : List (List (Int × Int))) (l : List GNode) (hl : GoodF l) (hpl : p.length ≤ 100000) (htl : ty.length = p.length) (hal : ar.length = p.length) :
  CallM Tryz.prog 60 [.bp 1 [] 0, .p T23 l] (clO h p ty ar) [1]
  (fun res objs' => res = .raw (.tuple #[]) ∧ objs' = clO h (p ++ numsG p.length l.length) (ty ++ typesG l l.length) (ar ++ arcsU p.length l l.length)) := by
 refine fnM_ok Tryz.func60 (by kernel_rfl) rfl Tryz.ntmps60 (by simp only [List.length_cons, List.length_nil]; omega) (by kernel_rfl) rfl rfl (tyTab_ok []) fns_nil ?_
 intro w0 K O0 ρ0 hc hok1 hok2
 have hll := hl.1
 simp only [argEnv, clO]
 repeat' (first | exact trivial | refine eS rfl ?_ | refine ev_out_inv ?_ | refine rX [0, 1, 4, 5, 6, 7, 9, 15, 16, 17, 18, 46, 47, 48, 49] hc ?_ ?_ | (refine rC (fun hcond => ?_) (fun hcond => ?_) <;> try (cases hcond; done)))
 refine ev_loop (ι := {i : Nat // i ≤ l.length}) (fun i => ⟨[(0, .bp 1 [] 0), (4, .p (.int .i64) (p.length : Int)), (15, .p T23 l), (16, .p (.int .i64) (l.length : Int)), (17, .p (.int .i64) (i.1 : Int))], [(1, .box 94 true [.p T29 h, .sr 2 T3 0 (p ++ numsG p.length i.1).length, .sr 3 T3 0 (ty ++ typesG l i.1).length, .sr 4 T86 0 (ar ++ arcsU p.length l i.1).length]), (2, .arr 3 T3 (p ++ numsG p.length i.1)), (3, .arr 3 T3 (ty ++ typesG l i.1)), (4, .arr 86 T86 (ar ++ arcsU p.length l i.1))]⟩) (fun i => l.length - i.1) ⟨0, Nat.zero_le _⟩ (ent_match [(1, .nm 1), (2, .nm 2), (3, .nm 3), (4, .nm 4)] rfl rfl ?_ ?_) (fun i => ?_)
 ·first | exact eN | refine eM ?_
  simp [numsG, typesG, arcsU]
 ·first | exact eN | refine eM ?_
 ·obtain ⟨i, hi⟩ := i
  have hnl := numsG_len p.length i
  have hns := numsG_succ p.length i
  have htl2 : (typesG l i).length = i := by unfold typesG; rw [List.length_map, List.length_take]; omega
  have hal2 : (arcsU p.length l i).length = i := by unfold arcsU; rw [List.length_map, List.length_take]; omega
  have hts := fun h : i < l.length => map_take_succ (fun x : GNode => x.1) l (0, []) h
  have has := fun h : i < l.length => map_take_succ (fun x : GNode => shiftA p.length x.2) l (0, []) h
  simp only
  repeat' (first | exact trivial | refine eS rfl ?_ | refine ev_out_inv ?_ | refine rX [0, 1, 4, 5, 6, 7, 9, 15, 16, 17, 18, 46, 47, 48, 49] hc ?_ ?_ | (refine rC (fun hcond => ?_) (fun hcond => ?_) <;> try (cases hcond; done)))
  ·exact hcond
  ·refine ⟨⟨by omega, by omega⟩, ?_⟩
   rw [hnl]
   simp only [maxN]
   omega
  ·have hi2 : i < l.length := Int.ofNat_lt.1 hcond
   refine ev_mix drawsAny hc 9 [([1, 2, 3, 4, 5, 6, 7], 8)] [0] (by kernel_rfl) (mxA ?_ ?_)
   ·trivial
   ·refine mxL hc [3] ?_ ?_
    ·rw [htl2]
     simp only [maxN]
     omega
    ·refine mxE [0, 1, 4, 5, 6, 7, 9, 15, 16, 17, 18, 46, 47, 48, 49] hc ?_ ?_ ?_
     ·trivial
     ·trivial
     ·have hts2 := hts hi2
      have has2 := has hi2
      have eP : p ++ numsG p.length i ++ [(p.length : Int) + (i : Int)] = p ++ numsG p.length (i + 1) := by
       rw [hns, List.append_assoc]
       rfl
      have eT : ty ++ typesG l i ++ [(l.getD i (0, [])).1] = ty ++ typesG l (i + 1) := by
       unfold typesG
       rw [hts2, List.append_assoc]
      have lP : p.length + (numsG p.length i).length + 1 = (p ++ numsG p.length (i + 1)).length := by rw [List.length_append, numsG_len, numsG_len]; omega
      have lT : ty.length + (typesG l i).length + 1 = (ty ++ typesG l (i + 1)).length := by rw [← eT, List.length_append, List.length_append, List.length_singleton]
      have hrng := node_rng hl i
      have hxl : (l.getD i (0, [])).2.length ≤ 100000 := (hl.2 _ (mem_of_take_succ l (0, []) hi2)).1
      repeat' (first | exact trivial | refine eS rfl ?_ | refine ev_out_inv ?_ | refine rX [0, 1, 4, 5, 6, 7, 9, 15, 16, 17, 18, 46, 47, 48, 49] hc ?_ ?_ | (refine rC (fun hcond => ?_) (fun hcond => ?_) <;> try (cases hcond; done)))
      rw [eP, eT, lP, lT]
      generalize hxd : (l.getD i (0, [])).2 = xs at *
      refine ev_loop (ι := {k : Nat // k ≤ xs.length}) (fun k => ⟨[(0, .bp 1 [] 0), (4, .p (.int .i64) (p.length : Int)), (7, .sr 61 T108 0 (shiftA p.length (xs.take k.1)).length), (15, .p T23 l), (16, .p (.int .i64) (l.length : Int)), (17, .p (.int .i64) (i : Int)), (46, .p T86 xs), (47, .p (.int .i64) (xs.length : Int)), (48, .p (.int .i64) (k.1 : Int))], [(1, .box 94 true [.p T29 h, .sr 2 T3 0 (p ++ numsG p.length (i + 1)).length, .sr 3 T3 0 (ty ++ typesG l (i + 1)).length, .sr 4 T86 0 (ar ++ arcsU p.length l i).length]), (2, .arr 3 T3 (p ++ numsG p.length (i + 1))), (3, .arr 3 T3 (ty ++ typesG l (i + 1))), (4, .arr 86 T86 (ar ++ arcsU p.length l i)), (61, .arr 108 T108 (shiftA p.length (xs.take k.1)))]⟩) (fun k => xs.length - k.1) ⟨0, Nat.zero_le _⟩ (ent_match [(1, .nm 1), (2, .nm 2), (3, .nm 3), (4, .nm 4), (61, .nil)] rfl rfl ?_ ?_) (fun k => ?_)
      ·first | exact eN | refine eM ?_
       rfl
      ·first | exact eN | refine eM ?_
       rfl
      ·obtain ⟨k, hk⟩ := k
       have hsl : (shiftA p.length (xs.take k)).length = k := by unfold shiftA; rw [List.length_map, List.length_take]; omega
       have hss := fun h : k < xs.length => map_take_succ (fun a : Int × Int => (a.1, a.2 + (p.length : Int))) xs (0, 0) h
       have hkr := fun h : k < xs.length => hrng _ (mem_of_take_succ xs (0, 0) h)
       simp only
       repeat' (first | exact trivial | refine eS rfl ?_ | refine ev_out_inv ?_ | refine rX [0, 1, 4, 5, 6, 7, 9, 15, 16, 17, 18, 46, 47, 48, 49] hc ?_ ?_ | (refine rC (fun hcond => ?_) (fun hcond => ?_) <;> try (cases hcond; done)))
       ·exact hcond
       ·have hk2 : k < xs.length := Int.ofNat_lt.1 hcond
        have hkr2 := hkr hk2
        refine ⟨⟨by omega, by omega⟩, ?_⟩
        rw [hsl]
        simp only [maxN]
        omega
       ·omega
       ·have hk2 : k < xs.length := Int.ofNat_lt.1 hcond
        have hss2 : shiftA p.length (xs.take (k + 1)) = shiftA p.length (xs.take k) ++ [((xs.getD k (0, 0)).1, (xs.getD k (0, 0)).2 + (p.length : Int))] := hss hk2
        refine ⟨⟨k + 1, hk2⟩, by simp only; omega, ent_match [(1, .nm 1), (2, .nm 2), (3, .nm 3), (4, .nm 4), (61, .nm 61)] rfl rfl ?_ ?_⟩
        ·simp only [hss2]
         first | exact eN | refine eM ?_
        ·simp only [hss2]
         first | exact eN | refine eM ?_
       ·rw [hal2]
        simp only [maxN]
        omega
       ·omega
       ·have hk2 : xs.take k = xs := List.take_of_length_le (Int.ofNat_le.1 hcond)
        rw [hk2]
        have eA : ar ++ arcsU p.length l i ++ [shiftA p.length xs] = ar ++ arcsU p.length l (i + 1) := by
         unfold arcsU
         rw [has2, List.append_assoc]
        refine ⟨⟨i + 1, hi2⟩, by simp only; omega, ent_match [(1, .nm 1), (2, .nm 2), (3, .nm 3), (4, .nm 4)] rfl rfl ?_ ?_⟩
        ·simp only [← eA]
         first | exact eN | refine eM ?_
        ·first | exact eN | refine eM ?_
  ·have hi2 : i = l.length := by omega
   subst hi2
   refine Ev.ent (σ' := ⟨[], clO h (p ++ numsG p.length l.length) (ty ++ typesG l l.length) (ar ++ arcsU p.length l l.length)⟩) ?_ (ent_match [(1, .nm 1), (2, .nm 2), (3, .nm 3), (4, .nm 4)] rfl rfl ?_ ?_)
   ·exact ev_finM hc [] rfl (.inr rfl) (.raw (.tuple #[])) rfl ⟨rfl, rfl⟩
   ·unfold clO
    first | exact eN | refine eM ?_
   ·first | exact eN | refine eM ?_
end
/- Functions of unify.classes: join's merge. -/
section
attribute [local go_sem] meetS
def mrgF : List (Int × Int) → List (Int × Int) → List (Int × Int) × List (Int × Int)
 | [], y => (y, [])
 | a :: x, [] => (a :: x, [])
 | a :: x, b :: y =>
  if a.1 < b.1 then (a :: (mrgF x (b :: y)).1, (mrgF x (b :: y)).2)
  else if b.1 < a.1 then (b :: (mrgF (a :: x) y).1, (mrgF (a :: x) y).2)
  else (a :: (mrgF x y).1, (a.2, b.2) :: (mrgF x y).2)
termination_by x y => x.length + y.length
structure MInv (xs ys : List (Int × Int)) (W0 : List (Int × Int)) (s : (List (Int × Int) × List (Int × Int)) × (List (Int × Int) × List (Int × Int) × Nat)) : Prop where
 hi : s.2.2.2 ≤ s.2.2.1.length
 both : s.2.1 ++ (mrgF s.1.1 s.1.2).1 = (mrgF xs ys).1
 wait : s.2.2.1.take s.2.2.2 ++ (mrgF s.1.1 s.1.2).2 = W0 ++ (mrgF xs ys).2
 len : s.2.1.length + s.1.1.length + s.1.2.length ≤ xs.length + ys.length
 num : s.2.2.2 + s.1.1.length ≤ W0.length + xs.length
theorem mrg_x {x y : List (Int × Int)} (h0 : 0 < x.length) (h : y.length = 0 ∨ (x.getD 0 (0, 0)).1 < (y.getD 0 (0, 0)).1) : mrgF x y = (x.getD 0 (0, 0) :: (mrgF (x.drop 1) y).1, (mrgF (x.drop 1) y).2) := by
 cases x with
 | nil => simp at h0
 | cons a x =>
  cases y with
  | nil =>
   simp only [List.drop_succ_cons, List.drop_zero]
   cases x <;> simp [mrgF]
  | cons b y =>
   have h : a.1 < b.1 := by simpa using h
   simp only [List.drop_succ_cons, List.drop_zero]
   rw [mrgF, if_pos h]
   rfl
theorem mrg_y {x y : List (Int × Int)} (h0 : 0 < y.length) (h : x.length = 0 ∨ (y.getD 0 (0, 0)).1 < (x.getD 0 (0, 0)).1) : mrgF x y = (y.getD 0 (0, 0) :: (mrgF x (y.drop 1)).1, (mrgF x (y.drop 1)).2) := by
 cases y with
 | nil => simp at h0
 | cons b y =>
  cases x with
  | nil => simp [mrgF]
  | cons a x =>
   have h : b.1 < a.1 := by simpa using h
   simp only [List.drop_succ_cons, List.drop_zero]
   rw [mrgF, if_neg (by omega), if_pos h]
   rfl
theorem mrg_xy {x y : List (Int × Int)} (h0 : 0 < x.length) (h1 : 0 < y.length) (h : (x.getD 0 (0, 0)).1 = (y.getD 0 (0, 0)).1) : mrgF x y = (x.getD 0 (0, 0) :: (mrgF (x.drop 1) (y.drop 1)).1, ((x.getD 0 (0, 0)).2, (y.getD 0 (0, 0)).2) :: (mrgF (x.drop 1) (y.drop 1)).2) := by
 cases x with
 | nil => simp at h0
 | cons a x =>
  cases y with
  | nil => simp at h1
  | cons b y =>
   have h : a.1 = b.1 := by simpa using h
   simp only [List.drop_succ_cons, List.drop_zero]
   rw [mrgF, if_neg (by omega), if_neg (by omega)]
   rfl
section
variable {xs ys W0 x y bo V : List (Int × Int)} {k : Nat}
theorem minv_x (h : MInv xs ys W0 ((x, y), bo, V, k)) (h0 : 0 < x.length) (hc : y.length = 0 ∨ (x.getD 0 (0, 0)).1 < (y.getD 0 (0, 0)).1) : MInv xs ys W0 ((x.drop 1, y), bo ++ [x.getD 0 (0, 0)], V, k) := by
 have e := mrg_x h0 hc
 obtain ⟨h1, h2, h3, h4, h5⟩ := h
 simp only at h1 h2 h3 h4 h5
 rw [e] at h2 h3
 exact ⟨h1, by rw [List.append_assoc]; exact h2, h3, by simp only [List.length_append, List.length_singleton, List.length_drop]; omega, by simp only [List.length_drop]; omega⟩
theorem minv_y (h : MInv xs ys W0 ((x, y), bo, V, k)) (h0 : 0 < y.length) (hc : x.length = 0 ∨ (y.getD 0 (0, 0)).1 < (x.getD 0 (0, 0)).1) : MInv xs ys W0 ((x, y.drop 1), bo ++ [y.getD 0 (0, 0)], V, k) := by
 have e := mrg_y h0 hc
 obtain ⟨h1, h2, h3, h4, h5⟩ := h
 simp only at h1 h2 h3 h4 h5
 rw [e] at h2 h3
 exact ⟨h1, by rw [List.append_assoc]; exact h2, h3, by simp only [List.length_append, List.length_singleton, List.length_drop]; omega, h5⟩
theorem minv_xy (h : MInv xs ys W0 ((x, y), bo, V, k)) (h0 : 0 < x.length) (h1 : 0 < y.length) (hc : (x.getD 0 (0, 0)).1 = (y.getD 0 (0, 0)).1) : MInv xs ys W0 ((x.drop 1, y.drop 1), bo ++ [x.getD 0 (0, 0)], V.take k ++ [((x.getD 0 (0, 0)).2, (y.getD 0 (0, 0)).2)], k + 1) := by
 have e := mrg_xy h0 h1 hc
 obtain ⟨g1, h2, h3, h4, h5⟩ := h
 simp only at g1 h2 h3 h4 h5
 rw [e] at h2 h3
 have hl : (V.take k ++ [((x.getD 0 (0, 0)).2, (y.getD 0 (0, 0)).2)]).length = k + 1 := by simp only [List.length_append, List.length_singleton, List.length_take]; omega
 exact ⟨by simp only [hl]; omega, by rw [List.append_assoc]; exact h2, by simp only; rw [List.take_of_length_le (by omega), List.append_assoc]; exact h3, by simp only [List.length_append, List.length_singleton, List.length_drop]; omega, by simp only [List.length_drop]; omega⟩
end
def mgO (h : HierD) (p ty : List Int) (ar : List (List (Int × Int))) (W : List (Int × Int)) (hi : Nat) : List (Nat × Obj) :=
 [(1, .box 94 true [.p T29 h, .sr 2 T3 0 p.length, .sr 3 T3 0 ty.length, .sr 4 T86 0 ar.length]), (2, .arr 3 T3 p), (3, .arr 3 T3 ty), (4, .arr 86 T86 ar), (5, .box 91 false [.bp 1 [] 0]), (6, .box 159 false [.sr 7 T158 0 hi]), (7, .arr 158 T158 W)]
theorem merge_ok (h : HierD) (hh : h.1.length ≤ 100000) (hhc : ∀ x ∈ h.1, x.2.1.length ≤ 100000) (p ty : List Int) (ar : List (List (Int × Int))) (W : List (Int × Int)) (hi : Nat) (hhi : hi ≤ W.length) (hhb : hi ≤ 100000000000) {a b : Int} (a0 : 0 ≤ a) (a1 : a < (p.length : Int)) (b0 : 0 ≤ b) (b1 : b < (p.length : Int)) (htl : ty.length = p.length) (hal : ar.length = p.length)
  (ta : 0 ≤ ty.getD a.toNat 0 ∧ ty.getD a.toNat 0 < (h.1.length : Int)) (tb : 0 ≤ ty.getD b.toNat 0 ∧ ty.getD b.toNat 0 < (h.1.length : Int)) (hla : (ar.getD a.toNat []).length ≤ 10000000) (hlb : (ar.getD b.toNat []).length ≤ 10000000) :
  CallM Tryz.prog 101 [.p T3 a, .p T3 b, .bp 5 [] 0, .bp 6 [] 0] (mgO h p ty ar W hi) [1, 5, 6]
  (fun res objs' => ((meetF h (ty.getD a.toNat 0) (ty.getD b.toNat 0)).2 = false ∧ res = .p .bool false ∧ objs' = mgO h p ty ar W hi) ∨
   ((meetF h (ty.getD a.toNat 0) (ty.getD b.toNat 0)).2 = true ∧ res = .p .bool true ∧ ∃ W' hi', hi' ≤ W'.length ∧ W'.take hi' = W.take hi ++ (mrgF (ar.getD a.toNat []) (ar.getD b.toNat [])).2 ∧
    objs' = mgO h (p.set b.toNat a) (ty.set a.toNat (meetF h (ty.getD a.toNat 0) (ty.getD b.toNat 0)).1) (ar.set a.toNat (mrgF (ar.getD a.toNat []) (ar.getD b.toNat [])).1) W' hi')) := by
 refine fnM_ok Tryz.func101 (by kernel_rfl) rfl Tryz.ntmps101 (by simp only [List.length_cons, List.length_nil]; omega) (by kernel_rfl) rfl rfl (tyTab_ok [(76, meetS)]) (fns_cons meet_ok fns_nil) ?_
 intro w0 K O0 ρ0 hc hok1 hok2
 have a1t : a < (ty.length : Int) := by omega
 have b1t : b < (ty.length : Int) := by omega
 have a1r : a < (ar.length : Int) := by omega
 have b1r : b < (ar.length : Int) := by omega
 simp only [mgO, argEnv]
 repeat' (first | exact trivial | refine eS rfl ?_ | refine ev_out_inv ?_ | refine rX [0, 1, 2, 3, 6, 7, 8, 9, 10, 11, 35, 71, 94, 122] hc ?_ ?_ | (refine rC (fun hcond => ?_) (fun hcond => ?_) <;> try (cases hcond; done)))
 ·refine ⟨⟨a0, a1t⟩, ⟨b0, b1t⟩, ta, tb, hh, hhc⟩
 ·refine Ev.ent (σ' := ⟨[(6, .p .bool false)], mgO h p ty ar W hi⟩) ?_ (ent_match [(1, .nm 1), (2, .nm 2), (3, .nm 3), (4, .nm 4), (5, .nm 5), (6, .nm 6), (7, .nm 7)] rfl rfl ?_ ?_)
  ·exact ev_finM hc [.tmp 6] rfl (.inl rfl) (.p .bool false) eT (.inl ⟨hcond, rfl, rfl⟩)
  ·unfold mgO
   first | exact eN | refine eM ?_
  ·first | exact eN | refine eM ?_
 ·exact ⟨b0, b1⟩
 ·exact ⟨a0, a1t⟩
 ·exact ⟨⟨a0, a1r⟩, b0, b1r⟩
 ·generalize ht : (meetF h (ty.getD a.toNat 0) (ty.getD b.toNat 0)).1 = t at *
  generalize hxs : ar.getD a.toNat [] = xs at *
  generalize hys : ar.getD b.toNat [] = ys at *
  refine ev_loop (ι := {s : (List (Int × Int) × List (Int × Int)) × (List (Int × Int) × List (Int × Int) × Nat) // MInv xs ys (W.take hi) s}) (fun s => ⟨[(0, .p T3 a), (1, .p T3 b), (2, .bp 5 [] 0), (3, .bp 6 [] 0), (9, .p T86 s.1.1.1), (10, .p T86 s.1.1.2), (11, .sr 11 T108 0 s.1.2.1.length)], [(1, .box 94 true [.p T29 h, .sr 2 T3 0 p.length, .sr 3 T3 0 ty.length, .sr 4 T86 0 ar.length]), (2, .arr 3 T3 (p.set b.toNat a)), (3, .arr 3 T3 (ty.set a.toNat t)), (4, .arr 86 T86 ar), (5, .box 91 false [.bp 1 [] 0]), (6, .box 159 false [.sr 7 T158 0 s.1.2.2.2]), (7, .arr 158 T158 s.1.2.2.1), (11, .arr 108 T108 s.1.2.1)]⟩) (fun s => s.1.1.1.length + s.1.1.2.length) ⟨((xs, ys), ([], W, hi)), hhi, rfl, rfl, by simp, by simp only [List.length_take]; omega⟩ (ent_match [(1, .nm 1), (2, .nm 2), (3, .nm 3), (4, .nm 4), (5, .nm 5), (6, .nm 6), (7, .nm 7), (11, .nil)] rfl rfl ?_ ?_) (fun s => ?_)
  ·first | exact eN | refine eM ?_
  ·first | exact eN | refine eM ?_
  ·obtain ⟨⟨⟨x, y⟩, bo, V, k⟩, hm⟩ := s
   have hk1 := hm.len
   have hk2 := hm.num
   have hk3 := hm.hi
   simp only [List.length_take] at hk1 hk2 hk3 ⊢
   repeat' (first | exact trivial | refine eS rfl ?_ | refine ev_out_inv ?_ | refine rX [0, 1, 2, 3, 6, 7, 8, 9, 10, 11, 35, 71, 94, 122] hc ?_ ?_ | (refine rC (fun hcond => ?_) (fun hcond => ?_) <;> try (cases hcond; done)))
   ·refine ⟨fun h => ?_, fun h => ?_⟩
    ·rw [Bool.and_eq_true, decide_eq_true_eq] at h
     exact h.2
    ·rw [Bool.and_eq_true, Bool.not_eq_true', beq_eq_false_iff_ne] at h
     have h9 := h.1
     have h8 : y.length ≠ 0 := fun e => h9 (by rw [e]; rfl)
     exact Int.ofNat_lt.2 (Nat.pos_of_ne_zero h8)
   ·have hx0 : 0 < x.length := by
     rcases hcond with hcond | hcond
     ·omega
     ·exact Int.ofNat_lt.1 hcond.1
    have hcx : y.length = 0 ∨ (x.getD 0 (0, 0)).1 < (y.getD 0 (0, 0)).1 := by
     rcases hcond with hcond | hcond
     ·exact .inl (Int.ofNat.inj hcond)
     ·exact .inr hcond.2
    refine ev_mix drawsAny hc 9 [([0, 1, 2, 3, 4], 5), ([], 8)] [6, 7] (by kernel_rfl) (mxA ?_ ?_)
    ·exact ⟨Int.ofNat_lt.2 hx0, Int.ofNat_le.2 hx0⟩
    ·refine mxL hc [11] ?_ ?_
     ·simp only [maxN]; omega
     ·refine mxA ?_ ?_
      ·exact Int.ofNat_le.2 hx0
      ·refine mxL hc [] ?_ ?_
       ·trivial
       ·refine mxE [0, 1, 2, 3, 6, 7, 8, 9, 10, 11, 35, 71, 94, 122] hc ?_ ?_ ?_
        ·exact Int.ofNat_le.2 hx0
        ·trivial
        ·repeat' (first | exact trivial | refine eS rfl ?_ | refine ev_out_inv ?_ | refine rX [0, 1, 2, 3, 6, 7, 8, 9, 10, 11, 35, 71, 94, 122] hc ?_ ?_ | (refine rC (fun hcond => ?_) (fun hcond => ?_) <;> try (cases hcond; done)))
         refine ⟨⟨((x.drop 1, y), bo ++ [x.getD 0 (0, 0)], V, k), minv_x hm hx0 hcx⟩, by simp only [List.length_drop]; omega, ent_match [(1, .nm 1), (2, .nm 2), (3, .nm 3), (4, .nm 4), (5, .nm 5), (6, .nm 6), (7, .nm 7), (11, .nm 11)] rfl rfl ?_ ?_⟩
         ·first | exact eN | refine eM ?_
         ·first | exact eN | refine eM ?_
   ·have h8 : y.length ≠ 0 := fun e => hcond.1 (by rw [e]; rfl)
    have h7 : 0 < y.length := Nat.pos_of_ne_zero h8
    refine ⟨fun h => Int.ofNat_lt.2 h7, fun h => ?_⟩
    ·rw [Bool.not_eq_true', beq_eq_false_iff_ne] at h
     have h8 : x.length ≠ 0 := fun e => h (by rw [e]; rfl)
     exact Int.ofNat_lt.2 (Nat.pos_of_ne_zero h8)
   ·have hy0 : 0 < y.length := Nat.pos_of_ne_zero fun e => (by assumption : ¬ _ ∧ _).1 (by rw [e]; rfl)
    have hcy : x.length = 0 ∨ (y.getD 0 (0, 0)).1 < (x.getD 0 (0, 0)).1 := by
     rcases hcond with hcond | hcond
     ·exact .inl (Int.ofNat.inj hcond)
     ·exact .inr hcond
    refine ev_mix drawsAny hc 9 [([0, 1, 2, 3, 4], 5), ([], 8)] [6, 7] (by kernel_rfl) (mxA ?_ ?_)
    ·exact ⟨Int.ofNat_lt.2 hy0, Int.ofNat_le.2 hy0⟩
    ·refine mxL hc [11] ?_ ?_
     ·simp only [maxN]; omega
     ·refine mxA ?_ ?_
      ·exact Int.ofNat_le.2 hy0
      ·refine mxL hc [] ?_ ?_
       ·trivial
       ·refine mxE [0, 1, 2, 3, 6, 7, 8, 9, 10, 11, 35, 71, 94, 122] hc ?_ ?_ ?_
        ·exact Int.ofNat_le.2 hy0
        ·trivial
        ·repeat' (first | exact trivial | refine eS rfl ?_ | refine ev_out_inv ?_ | refine rX [0, 1, 2, 3, 6, 7, 8, 9, 10, 11, 35, 71, 94, 122] hc ?_ ?_ | (refine rC (fun hcond => ?_) (fun hcond => ?_) <;> try (cases hcond; done)))
         refine ⟨⟨((x, y.drop 1), bo ++ [y.getD 0 (0, 0)], V, k), minv_y hm hy0 hcy⟩, by simp only [List.length_drop]; omega, ent_match [(1, .nm 1), (2, .nm 2), (3, .nm 3), (4, .nm 4), (5, .nm 5), (6, .nm 6), (7, .nm 7), (11, .nm 11)] rfl rfl ?_ ?_⟩
         ·first | exact eN | refine eM ?_
         ·first | exact eN | refine eM ?_
   ·rename_i hcy
    have hx0 : 0 < x.length := Nat.pos_of_ne_zero fun e => hcond.1 (by rw [e]; rfl)
    have hy0 : 0 < y.length := Nat.pos_of_ne_zero fun e => hcy.1 (by rw [e]; rfl)
    refine ⟨Int.ofNat_lt.2 hx0, Int.ofNat_lt.2 hy0, ?_⟩
    simp only [maxN]
    omega
   ·rename_i hcy
    have hx0 : 0 < x.length := Nat.pos_of_ne_zero fun e => hcond.1 (by rw [e]; rfl)
    have hy0 : 0 < y.length := Nat.pos_of_ne_zero fun e => hcy.1 (by rw [e]; rfl)
    have he : (x.getD 0 (0, 0)).1 = (y.getD 0 (0, 0)).1 := Int.le_antisymm hcond.2 (hcy.2 (Int.ofNat_lt.2 hx0))
    refine ev_mix drawsAny hc 12 [([0, 1, 2, 3, 4], 5), ([], 10), ([6, 7], 11)] [8, 9] (by kernel_rfl) (mxA ?_ ?_)
    ·exact ⟨Int.ofNat_lt.2 hx0, Int.ofNat_le.2 hx0, Int.ofNat_le.2 hy0⟩
    ·refine mxL hc [11] ?_ ?_
     ·simp only [maxN]; omega
     ·refine mxA ?_ ?_
      ·exact ⟨Int.ofNat_le.2 hx0, Int.ofNat_le.2 hy0⟩
      ·refine mxL hc [] ?_ ?_
       ·trivial
       ·refine mxA ?_ ?_
        ·exact ⟨Int.ofNat_le.2 hx0, Int.ofNat_le.2 hy0⟩
        ·refine mxL hc [] ?_ ?_
         ·trivial
         ·refine mxE [0, 1, 2, 3, 6, 7, 8, 9, 10, 11, 35, 71, 94, 122] hc ?_ ?_ ?_
          ·exact Int.ofNat_le.2 hy0
          ·trivial
          ·repeat' (first | exact trivial | refine eS rfl ?_ | refine ev_out_inv ?_ | refine rX [0, 1, 2, 3, 6, 7, 8, 9, 10, 11, 35, 71, 94, 122] hc ?_ ?_ | (refine rC (fun hcond => ?_) (fun hcond => ?_) <;> try (cases hcond; done)))
           refine ⟨⟨((x.drop 1, y.drop 1), bo ++ [x.getD 0 (0, 0)], V.take k ++ [((x.getD 0 (0, 0)).2, (y.getD 0 (0, 0)).2)], k + 1), minv_xy hm hx0 hy0 he⟩, by simp only [List.length_drop]; omega, ent_match [(1, .nm 1), (2, .nm 2), (3, .nm 3), (4, .nm 4), (5, .nm 5), (6, .nm 6), (7, .nm 7), (11, .nm 11)] rfl rfl ?_ ?_⟩
           ·first | exact eN | refine eM ?_
           ·first | exact eN | refine eM ?_
   ·exact ⟨a0, a1r⟩
   ·have hx0 : x = [] := List.eq_nil_of_length_eq_zero (by omega)
    have hy0 : y = [] := List.eq_nil_of_length_eq_zero (by omega)
    subst hx0 hy0
    have hb := hm.both
    have hw := hm.wait
    simp only [mrgF, List.append_nil] at hb hw
    refine Ev.ent (σ' := ⟨[(6, .p .bool true)], mgO h (p.set b.toNat a) (ty.set a.toNat t) (ar.set a.toNat bo) V k⟩) ?_ (ent_match [(1, .nm 1), (2, .nm 2), (3, .nm 3), (4, .nm 4), (5, .nm 5), (6, .nm 6), (7, .nm 7)] rfl rfl ?_ ?_)
    ·exact ev_finM hc [.tmp 6] rfl (.inl rfl) (.p .bool true) eT (.inr ⟨by assumption, rfl, V, k, hk3, hw, by rw [hb]; rfl⟩)
    ·unfold mgO
     simp only [List.length_set]
     first | exact eN | refine eM ?_
    ·first | exact eN | refine eM ?_
end
/- Plain: what join keeps: the classes are the least that make the pairs equal, and what they have is asked by all. -/
section
theorem hsub_trans {h : HierD} (hk : HOk h) {a b c : Int} (a0 : 0 ≤ a) (a1 : a < (h.1.length : Int)) (b0 : 0 ≤ b) (b1 : b < (h.1.length : Int)) (c0 : 0 ≤ c) (c1 : c < (h.1.length : Int)) (h1 : hsubF h a b = true) (h2 : hsubF h b c = true) : hsubF h a c = true :=
 (hsub_iff hk a0 a1 c0 c1).2 fun i hi => (hsub_iff hk a0 a1 b0 b1).1 h1 i ((hsub_iff hk b0 b1 c0 c1).1 h2 i hi)
/-! Merged arcs -/
theorem mrg_left : ∀ {x y : List (Int × Int)} {a : Int × Int}, a ∈ x → a ∈ (mrgF x y).1
 | [], _, _, h => by cases h
 | b :: x, [], a, h => by simpa [mrgF] using h
 | b :: x, c :: y, a, h => by
  rw [mrgF]
  split
  ·rcases List.mem_cons.1 h with rfl | h
   ·simp
   ·exact List.mem_cons_of_mem _ (mrg_left h)
  ·split
   ·exact List.mem_cons_of_mem _ (mrg_left h)
   ·rcases List.mem_cons.1 h with rfl | h
    ·simp
    ·exact List.mem_cons_of_mem _ (mrg_left h)
termination_by x y => x.length + y.length
theorem mrg_right : ∀ {x y : List (Int × Int)} {a : Int × Int}, a ∈ y → a ∈ (mrgF x y).1 ∨ ∃ t, (a.1, t) ∈ (mrgF x y).1 ∧ (t, a.2) ∈ (mrgF x y).2
 | [], y, a, h => by
  left
  simpa [mrgF] using h
 | b :: x, [], a, h => by cases h
 | b :: x, c :: y, a, h => by
  rw [mrgF]
  split
  ·rcases mrg_right (x := x) h with g | ⟨t, g1, g2⟩
   ·exact .inl (List.mem_cons_of_mem _ g)
   ·exact .inr ⟨t, List.mem_cons_of_mem _ g1, g2⟩
  ·split
   ·rcases List.mem_cons.1 h with rfl | h
    ·left; simp
    ·rcases mrg_right (x := b :: x) h with g | ⟨t, g1, g2⟩
     ·exact .inl (List.mem_cons_of_mem _ g)
     ·exact .inr ⟨t, List.mem_cons_of_mem _ g1, g2⟩
   ·rcases List.mem_cons.1 h with rfl | h
    ·right
     exact ⟨b.2, by rw [show a.1 = b.1 by omega]; simp, by simp⟩
    ·rcases mrg_right (x := x) h with g | ⟨t, g1, g2⟩
     ·exact .inl (List.mem_cons_of_mem _ g)
     ·exact .inr ⟨t, List.mem_cons_of_mem _ g1, List.mem_cons_of_mem _ g2⟩
termination_by x y => x.length + y.length
theorem mrg_sub : ∀ {x y : List (Int × Int)} {a : Int × Int}, a ∈ (mrgF x y).1 → a ∈ x ∨ a ∈ y
 | [], y, a, h => by
  right
  simpa [mrgF] using h
 | b :: x, [], a, h => by
  left
  simpa [mrgF] using h
 | b :: x, c :: y, a, h => by
  rw [mrgF] at h
  split at h
  ·rcases List.mem_cons.1 h with rfl | h
   ·left; simp
   ·rcases mrg_sub h with g | g
    ·exact .inl (List.mem_cons_of_mem _ g)
    ·exact .inr g
  ·split at h
   ·rcases List.mem_cons.1 h with rfl | h
    ·right; simp
    ·rcases mrg_sub h with g | g
     ·exact .inl g
     ·exact .inr (List.mem_cons_of_mem _ g)
   ·rcases List.mem_cons.1 h with rfl | h
    ·left; simp
    ·rcases mrg_sub h with g | g
     ·exact .inl (List.mem_cons_of_mem _ g)
     ·exact .inr (List.mem_cons_of_mem _ g)
termination_by x y => x.length + y.length
theorem mrg_prs : ∀ {x y : List (Int × Int)} {q : Int × Int}, q ∈ (mrgF x y).2 → ∃ e, (e, q.1) ∈ x ∧ (e, q.2) ∈ y
 | [], y, q, h => by simp [mrgF] at h
 | b :: x, [], q, h => by simp [mrgF] at h
 | b :: x, c :: y, q, h => by
  rw [mrgF] at h
  split at h
  ·obtain ⟨e, h1, h2⟩ := mrg_prs h
   exact ⟨e, List.mem_cons_of_mem _ h1, h2⟩
  ·split at h
   ·obtain ⟨e, h1, h2⟩ := mrg_prs h
    exact ⟨e, h1, List.mem_cons_of_mem _ h2⟩
   ·rcases List.mem_cons.1 h with rfl | h
    ·exact ⟨b.1, by simp, by rw [show b.1 = c.1 by omega]; simp⟩
    ·obtain ⟨e, h1, h2⟩ := mrg_prs h
     exact ⟨e, List.mem_cons_of_mem _ h1, List.mem_cons_of_mem _ h2⟩
termination_by x y => x.length + y.length
theorem mrg_num : ∀ {x y : List (Int × Int)}, (mrgF x y).2.length ≤ x.length
 | [], y => by simp [mrgF]
 | b :: x, [] => by simp [mrgF]
 | b :: x, c :: y => by
  rw [mrgF]
  split
  ·have := mrg_num (x := x) (y := c :: y)
   simp only [List.length_cons]
   omega
  ·split
   ·exact mrg_num (x := b :: x) (y := y)
   ·have := mrg_num (x := x) (y := y)
    simp only [List.length_cons]
    omega
termination_by x y => x.length + y.length
abbrev Str (l : List (Int × Int)) : Prop := l.Pairwise (fun a b => a.1 < b.1)
theorem mrg_srt : ∀ {x y : List (Int × Int)}, Str x → Str y → Str (mrgF x y).1
 | [], y, _, h => by simpa [mrgF] using h
 | b :: x, [], h, _ => by simpa [mrgF] using h
 | b :: x, c :: y, hx, hy => by
  have hx2 := List.pairwise_cons.1 hx
  have hy2 := List.pairwise_cons.1 hy
  rw [mrgF]
  split
  ·rename_i hc
   refine List.pairwise_cons.2 ⟨fun a ha => ?_, mrg_srt hx2.2 hy⟩
   rcases mrg_sub ha with g | g
   ·exact hx2.1 a g
   ·rcases List.mem_cons.1 g with rfl | g
    ·exact hc
    ·have := hy2.1 a g
     omega
  ·split
   ·rename_i hc
    refine List.pairwise_cons.2 ⟨fun a ha => ?_, mrg_srt hx hy2.2⟩
    rcases mrg_sub ha with g | g
    ·rcases List.mem_cons.1 g with rfl | g
     ·exact hc
     ·have := hx2.1 a g
      omega
    ·exact hy2.1 a g
   ·refine List.pairwise_cons.2 ⟨fun a ha => ?_, mrg_srt hx2.2 hy2.2⟩
    rcases mrg_sub ha with g | g
    ·exact hx2.1 a g
    ·have := hy2.1 a g
     omega
termination_by x y => x.length + y.length
/-! Classes joined -/
theorem link_rt {p : List Int} {rk : Int → Nat} (hp : Fo p rk) {a b : Int} (a0 : 0 ≤ a) (b0 : 0 ≤ b) (b1 : b < (p.length : Int)) (ha : par p a = a) (hb : par p b = b) (hab : a ≠ b) {x r : Int} (x0 : 0 ≤ x) (x1 : x < (p.length : Int)) (h : Rt p x r) : Rt (p.set b.toNat a) x (if r = b then a else r) := by
 have hbase : Rt (p.set b.toNat a) a a := .base (by rw [par_set b0 b1 a a0, if_neg hab]; exact ha)
 induction h with
 | @base n hn =>
  split
  ·rename_i e
   rw [e]
   exact .step (by rw [par_set b0 b1 b b0, if_pos rfl]; exact hab) (by rw [par_set b0 b1 b b0, if_pos rfl]; exact hbase)
  ·rename_i e
   exact .base (by rw [par_set b0 b1 n x0, if_neg e]; exact hn)
 | @step n r hn _ ih =>
  have hnb : n ≠ b := fun e => hn (e ▸ hb)
  have hr := hp.rng n x0 x1
  exact .step (by rw [par_set b0 b1 n x0, if_neg hnb]; exact hn) (by rw [par_set b0 b1 n x0, if_neg hnb]; exact ih hr.1 hr.2)
theorem link_fo {p : List Int} {rk : Int → Nat} (hp : Fo p rk) {a b : Int} (a0 : 0 ≤ a) (a1 : a < (p.length : Int)) (b0 : 0 ≤ b) (b1 : b < (p.length : Int)) (ha : par p a = a) (hb : par p b = b) (hab : a ≠ b) : ∃ rk', Fo (p.set b.toNat a) rk' := by
 classical
 refine ⟨fun x => if Rt p x b then rk x + rk a + 1 else rk x, fun n n0 n1 => ?_, fun n n0 n1 hn => ?_⟩
 ·rw [List.length_set] at n1 ⊢
  rw [par_set b0 b1 n n0]
  split
  ·exact ⟨a0, a1⟩
  ·exact hp.rng n n0 n1
 ·rw [List.length_set] at n1
  rw [par_set b0 b1 n n0] at hn ⊢
  by_cases e : n = b
  ·subst e
   rw [if_pos rfl]
   have h1 : ¬ Rt p a n := fun g => hab (g.det (.base ha)).symm
   rw [if_neg h1, if_pos (.base hb)]
   omega
  ·rw [if_neg e] at hn ⊢
   have hd := hp.dec n n0 n1 hn
   have hiff : Rt p n b ↔ Rt p (par p n) b := by
    constructor
    ·intro g
     cases g with
     | base g => exact absurd g hn
     | step _ g => exact g
    ·exact fun g => .step hn g
   by_cases g : Rt p n b
   ·rw [if_pos g, if_pos (hiff.1 g)]
    omega
   ·rw [if_neg g, if_neg (fun g2 => g (hiff.2 g2))]
    exact hd
inductive EG (n : Nat) (p : List Int) (W : List (Int × Int)) : Int → Int → Prop
 | cls {x y r : Int} (x0 : 0 ≤ x) (x1 : x < (n : Int)) (y0 : 0 ≤ y) (y1 : y < (n : Int)) (h : Rt p x r) (g : Rt p y r) : EG n p W x y
 | wt {x y : Int} (h : (x, y) ∈ W) : EG n p W x y
 | symm {x y : Int} (h : EG n p W x y) : EG n p W y x
 | trans {x y z : Int} (h : EG n p W x y) (g : EG n p W y z) : EG n p W x z
theorem EG.mono {n : Nat} {p q : List Int} {W V : List (Int × Int)} (h1 : ∀ x y r, 0 ≤ x → x < (n : Int) → 0 ≤ y → y < (n : Int) → Rt p x r → Rt p y r → EG n q V x y) (h2 : ∀ x y, (x, y) ∈ W → EG n q V x y) {x y : Int} (h : EG n p W x y) : EG n q V x y := by
 induction h with
 | cls x0 x1 y0 y1 h g => exact h1 _ _ _ x0 x1 y0 y1 h g
 | wt h => exact h2 _ _ h
 | symm _ ih => exact .symm ih
 | trans _ _ ih1 ih2 => exact .trans ih1 ih2
structure XOk (h : HierD) (N : List GNode) (P : List (Int × Int)) (X : List GNode) (v : Int → Int) : Prop where
 rng : ∀ x, 0 ≤ x → x < (N.length : Int) → 0 ≤ v x ∧ v x < (X.length : Int)
 ty : ∀ x, 0 ≤ x → x < (N.length : Int) → hsubF h (N.getD x.toNat (0, [])).1 (X.getD (v x).toNat (0, [])).1 = true
 arc : ∀ x, 0 ≤ x → x < (N.length : Int) → ∀ a ∈ arcsAt N x, tgtF (arcsAt X (v x)) a.1 = v a.2
 eq : ∀ q ∈ P, v q.1 = v q.2
structure JX (h : HierD) (X : List GNode) (v : Int → Int) (n : Nat) (p ty : List Int) (ar : List (List (Int × Int))) (W : List (Int × Int)) : Prop where
 cls : ∀ x r, 0 ≤ x → x < (n : Int) → Rt p x r → v x = v r
 wt : ∀ w ∈ W, v w.1 = v w.2
 ty : ∀ r, 0 ≤ r → r < (n : Int) → par p r = r → hsubF h (ty.getD r.toNat 0) (X.getD (v r).toNat (0, [])).1 = true
 arc : ∀ r, 0 ≤ r → r < (n : Int) → par p r = r → ∀ a ∈ ar.getD r.toNat [], tgtF (arcsAt X (v r)) a.1 = v a.2
def featsN (N : List GNode) : List Int := N.flatMap fun x => x.2.map (·.1)
structure JI (h : HierD) (N : List GNode) (P : List (Int × Int)) (p ty : List Int) (ar : List (List (Int × Int))) (W : List (Int × Int)) : Prop where
 nty : TyOk h N
 fo : ∃ rk, Fo p rk
 lp : p.length = N.length
 lt : ty.length = N.length
 la : ar.length = N.length
 wr : ∀ w ∈ W, (0 ≤ w.1 ∧ w.1 < (N.length : Int)) ∧ (0 ≤ w.2 ∧ w.2 < (N.length : Int))
 tyr : ∀ x, 0 ≤ x → x < (N.length : Int) → 0 ≤ ty.getD x.toNat 0 ∧ ty.getD x.toNat 0 < (h.1.length : Int)
 arr : ∀ k, ∀ a ∈ ar.getD k [], (0 ≤ a.2 ∧ a.2 < (N.length : Int)) ∧ a.1 ∈ featsN N
 srt : ∀ k, Str (ar.getD k [])
 sp : ∀ q ∈ P, EG N.length p W q.1 q.2
 st : ∀ x r, 0 ≤ x → x < (N.length : Int) → Rt p x r → hsubF h (N.getD x.toNat (0, [])).1 (ty.getD r.toNat 0) = true
 sa : ∀ x r, 0 ≤ x → x < (N.length : Int) → Rt p x r → ∀ a ∈ arcsAt N x, ∃ t, (a.1, t) ∈ ar.getD r.toNat [] ∧ EG N.length p W a.2 t
 co : ∀ X v, TyOk h X → XOk h N P X v → JX h X v N.length p ty ar W
theorem rt_rng {p : List Int} {rk : Int → Nat} (hp : Fo p rk) {x r : Int} (x0 : 0 ≤ x) (x1 : x < (p.length : Int)) (h : Rt p x r) : 0 ≤ r ∧ r < (p.length : Int) := by
 obtain ⟨s, hs, s0, s1⟩ := hp.root x0 x1
 rw [h.det hs]
 exact ⟨s0, s1⟩
theorem same_root {p q : List Int} (h : SameRt p q) {r : Int} (r0 : 0 ≤ r) (r1 : r < (p.length : Int)) : par p r = r ↔ par q r = r :=
 ⟨fun e => ((h.2 r r r0 r1).1 (.base e)).root, fun e => ((h.2 r r r0 r1).2 (.base e)).root⟩
theorem ji_same {h : HierD} {N : List GNode} {P : List (Int × Int)} {p q ty : List Int} {ar : List (List (Int × Int))} {W : List (Int × Int)} (hs : SameRt p q) (hq : ∃ rk, Fo q rk) (hj : JI h N P p ty ar W) : JI h N P q ty ar W := by
 obtain ⟨nty, fo, lp, lt, la, wr, tyr, arr, srt, sp, st, sa, co⟩ := hj
 have hiff : ∀ x r, 0 ≤ x → x < (N.length : Int) → (Rt p x r ↔ Rt q x r) := fun x r x0 x1 => hs.2 x r x0 (by rw [lp]; exact x1)
 have hE : ∀ {x y}, EG N.length p W x y → EG N.length q W x y := fun {x y} g => g.mono (fun x y r x0 x1 y0 y1 h1 h2 => .cls x0 x1 y0 y1 ((hiff x r x0 x1).1 h1) ((hiff y r y0 y1).1 h2)) (fun _ _ h => .wt h)
 refine ⟨nty, hq, by rw [← hs.1]; exact lp, lt, la, wr, tyr, arr, srt, fun q hq => hE (sp q hq), fun x r x0 x1 hr => st x r x0 x1 ((hiff x r x0 x1).2 hr), fun x r x0 x1 hr a ha => ?_, fun X v hX hv => ?_⟩
 ·obtain ⟨t, h1, h2⟩ := sa x r x0 x1 ((hiff x r x0 x1).2 hr) a ha
  exact ⟨t, h1, hE h2⟩
 ·obtain ⟨c1, c2, c3, c4⟩ := co X v hX hv
  exact ⟨fun x r x0 x1 hr => c1 x r x0 x1 ((hiff x r x0 x1).2 hr), c2, fun r r0 r1 hr => c3 r r0 r1 ((same_root hs r0 (by rw [lp]; exact r1)).2 hr), fun r r0 r1 hr => c4 r r0 r1 ((same_root hs r0 (by rw [lp]; exact r1)).2 hr)⟩
section
variable {h : HierD} {N : List GNode} {P : List (Int × Int)} {p ty : List Int} {ar : List (List (Int × Int))} {W : List (Int × Int)} {s t a b : Int}
theorem ji_skip (hj : JI h N P p ty ar (W ++ [(s, t)])) (hs : Rt p s a) (ht : Rt p t a) : JI h N P p ty ar W := by
 obtain ⟨nty, fo, lp, lt, la, wr, tyr, arr, srt, sp, st, sa, co⟩ := hj
 have hw := wr (s, t) (by simp)
 have hE : ∀ {x y}, EG N.length p (W ++ [(s, t)]) x y → EG N.length p W x y := fun {x y} g => g.mono (fun x y r x0 x1 y0 y1 h1 h2 => .cls x0 x1 y0 y1 h1 h2) (fun x y hxy => by
  rcases List.mem_append.1 hxy with hxy | hxy
  ·exact .wt hxy
  ·have e : (x, y) = (s, t) := by simpa using hxy
   cases e
   exact .cls hw.1.1 hw.1.2 hw.2.1 hw.2.2 hs ht)
 refine ⟨nty, fo, lp, lt, la, fun w hw => wr w (List.mem_append_left _ hw), tyr, arr, srt, fun q hq => hE (sp q hq), st, fun x r x0 x1 hr a ha => ?_, fun X v hX hv => ?_⟩
 ·obtain ⟨u, h1, h2⟩ := sa x r x0 x1 hr a ha
  exact ⟨u, h1, hE h2⟩
 ·obtain ⟨c1, c2, c3, c4⟩ := co X v hX hv
  exact ⟨c1, fun w hw => c2 w (List.mem_append_left _ hw), c3, c4⟩
theorem ji_meet (hk : HOk h) (hj : JI h N P p ty ar (W ++ [(s, t)])) (hs : Rt p s a) (ht : Rt p t b) {X : List GNode} {v : Int → Int} (hX : TyOk h X) (hv : XOk h N P X v) :
  v a = v b ∧ (meetF h (ty.getD a.toNat 0) (ty.getD b.toNat 0)).2 = true ∧ hsubF h (meetF h (ty.getD a.toNat 0) (ty.getD b.toNat 0)).1 (X.getD (v a).toNat (0, [])).1 = true := by
 obtain ⟨rk, fo⟩ := hj.fo
 obtain ⟨⟨s0, s1⟩, t0, t1⟩ := hj.wr (s, t) (by simp)
 simp only at s0 s1 t0 t1
 have ra := rt_rng fo s0 (by rw [hj.lp]; exact s1) hs
 have rb := rt_rng fo t0 (by rw [hj.lp]; exact t1) ht
 rw [hj.lp] at ra rb
 obtain ⟨c1, c2, c3, c4⟩ := hj.co X v hX hv
 have e1 := c1 s a s0 s1 hs
 have e2 := c1 t b t0 t1 ht
 have e3 : v s = v t := c2 (s, t) (by simp)
 have e : v a = v b := by rw [← e1, ← e2, e3]
 have g1 := c3 a ra.1 ra.2 hs.root
 have g2 := c3 b rb.1 rb.2 ht.root
 rw [← e] at g2
 have hva := hv.rng a ra.1 ra.2
 have hx := hX _ (mem_of_take_succ X (0, []) (k := (v a).toNat) (by omega))
 have ta := hj.tyr a ra.1 ra.2
 have tb := hj.tyr b rb.1 rb.2
 obtain ⟨m1, m2⟩ := (meet_law hk ta.1 ta.2 tb.1 tb.2).2 _ hx.1 hx.2 g1 g2
 exact ⟨e, m1, m2⟩
theorem getD_set3 {α : Type} {l : List α} {d v : α} {a r : Int} (a0 : 0 ≤ a) (a1 : a < (l.length : Int)) (r0 : 0 ≤ r) : (l.set a.toNat v).getD r.toNat d = if r = a then v else l.getD r.toNat d := by
 by_cases e : r = a
 ·subst e
  rw [if_pos rfl, getD_set_self _ _ _ (by omega)]
 ·rw [if_neg e, getD_set_ne _ _ _ (by omega)]
theorem ji_merge (hk : HOk h) (hj : JI h N P p ty ar (W ++ [(s, t)])) (hs : Rt p s a) (ht : Rt p t b) (hab : a ≠ b) (hm : (meetF h (ty.getD a.toNat 0) (ty.getD b.toNat 0)).2 = true) :
  JI h N P (p.set b.toNat a) (ty.set a.toNat (meetF h (ty.getD a.toNat 0) (ty.getD b.toNat 0)).1) (ar.set a.toNat (mrgF (ar.getD a.toNat []) (ar.getD b.toNat [])).1) (W ++ (mrgF (ar.getD a.toNat []) (ar.getD b.toNat [])).2) := by
 have hmt := fun X v hX hv => ji_meet (X := X) (v := v) hk hj hs ht hX hv
 obtain ⟨nty, ⟨rk, fo⟩, lp, lt, la, wr, tyr, arr, srt, sp, st, sa, co⟩ := hj
 obtain ⟨⟨s0, s1⟩, t0, t1⟩ := wr (s, t) (by simp)
 simp only at s0 s1 t0 t1
 have ra := rt_rng fo s0 (by rw [lp]; exact s1) hs
 have rb := rt_rng fo t0 (by rw [lp]; exact t1) ht
 have ha := hs.root
 have hb := ht.root
 have hnew := fun {x r : Int} (x0 : 0 ≤ x) (x1 : x < (N.length : Int)) (hx : Rt p x r) => link_rt fo ra.1 rb.1 rb.2 ha hb hab x0 (by rw [lp]; exact x1) hx
 have hold : ∀ {x r : Int}, 0 ≤ x → x < (N.length : Int) → Rt (p.set b.toNat a) x r → ∃ r', Rt p x r' ∧ r = if r' = b then a else r' := fun {x r} x0 x1 hx => by
  obtain ⟨r', h1, -, -⟩ := fo.root x0 (by rw [lp]; exact x1)
  exact ⟨r', h1, hx.det (hnew x0 x1 h1)⟩
 have ta := tyr a ra.1 (by rw [← lp]; exact ra.2)
 have tb := tyr b rb.1 (by rw [← lp]; exact rb.2)
 obtain ⟨q0, q1, q2, q3⟩ := (meet_law hk ta.1 ta.2 tb.1 tb.2).1 hm
 generalize hmt0 : (meetF h (ty.getD a.toNat 0) (ty.getD b.toNat 0)).1 = m at *
 generalize hxs : ar.getD a.toNat [] = xs at *
 generalize hys : ar.getD b.toNat [] = ys at *
 have hst : EG N.length (p.set b.toNat a) (W ++ (mrgF xs ys).2) s t := by
  have h1 := hnew s0 s1 hs
  have h2 := hnew t0 t1 ht
  rw [if_neg hab] at h1
  rw [if_pos rfl] at h2
  exact .cls s0 s1 t0 t1 h1 h2
 have hE : ∀ {x y}, EG N.length p (W ++ [(s, t)]) x y → EG N.length (p.set b.toNat a) (W ++ (mrgF xs ys).2) x y := fun {x y} g => g.mono (fun x y r x0 x1 y0 y1 h1 h2 => .cls x0 x1 y0 y1 (hnew x0 x1 h1) (hnew y0 y1 h2)) (fun x y hxy => by
  rcases List.mem_append.1 hxy with hxy | hxy
  ·exact .wt (List.mem_append_left _ hxy)
  ·have e : (x, y) = (s, t) := by simpa using hxy
   cases e
   exact hst)
 have hty := fun {r : Int} (r0 : 0 ≤ r) => getD_set3 (l := ty) (d := 0) (v := m) ra.1 (by rw [lt, ← lp]; exact ra.2) r0
 have har := fun {r : Int} (r0 : 0 ≤ r) => getD_set3 (l := ar) (d := []) (v := (mrgF xs ys).1) ra.1 (by rw [la, ← lp]; exact ra.2) r0
 refine ⟨nty, link_fo fo ra.1 ra.2 rb.1 rb.2 ha hb hab, by rw [List.length_set]; exact lp, by rw [List.length_set]; exact lt, by rw [List.length_set]; exact la, fun w hw => ?_, fun x x0 x1 => ?_, fun k y hy => ?_, fun k => ?_, fun q hq => hE (sp q hq), fun x r x0 x1 hr => ?_, fun x r x0 x1 hr y hy => ?_, fun X v hX hv => ?_⟩
 ·rcases List.mem_append.1 hw with hw | hw
  ·exact wr w (List.mem_append_left _ hw)
  ·obtain ⟨e, e1, e2⟩ := mrg_prs hw
   rw [← hxs] at e1
   rw [← hys] at e2
   exact ⟨(arr _ _ e1).1, (arr _ _ e2).1⟩
 ·rw [hty x0]
  split
  ·exact ⟨q0, q1⟩
  ·exact tyr x x0 x1
 ·have h1 := har (r := (k : Int)) (by omega)
  rw [Int.toNat_natCast] at h1
  rw [h1] at hy
  split at hy
  ·rcases mrg_sub hy with hy | hy
   ·rw [← hxs] at hy; exact arr _ _ hy
   ·rw [← hys] at hy; exact arr _ _ hy
  ·exact arr _ _ hy
 ·have h1 := har (r := (k : Int)) (by omega)
  rw [Int.toNat_natCast] at h1
  rw [h1]
  split
  ·exact mrg_srt (by rw [← hxs]; exact srt _) (by rw [← hys]; exact srt _)
  ·exact srt k
 ·obtain ⟨r', h1, rfl⟩ := hold x0 x1 hr
  have hx := nty _ (mem_of_take_succ N (0, []) (k := x.toNat) (by omega))
  have hrr := rt_rng fo x0 (by rw [lp]; exact x1) h1
  by_cases e : r' = b
  ·rw [if_pos e, hty ra.1, if_pos rfl]
   exact hsub_trans hk hx.1 hx.2 tb.1 tb.2 q0 q1 (by rw [← e]; exact st x r' x0 x1 h1) q3
  ·rw [if_neg e, hty hrr.1]
   split
   ·rename_i e2
    exact hsub_trans hk hx.1 hx.2 ta.1 ta.2 q0 q1 (by rw [← e2]; exact st x r' x0 x1 h1) q2
   ·exact st x r' x0 x1 h1
 ·obtain ⟨r', h1, rfl⟩ := hold x0 x1 hr
  have hrr := rt_rng fo x0 (by rw [lp]; exact x1) h1
  obtain ⟨u, u1, u2⟩ := sa x r' x0 x1 h1 y hy
  by_cases e : r' = b
  ·rw [if_pos e, har ra.1, if_pos rfl]
   rw [e, hys] at u1
   rcases mrg_right (x := xs) u1 with g | ⟨w, g1, g2⟩
   ·exact ⟨u, g, hE u2⟩
   ·exact ⟨w, g1, .trans (hE u2) (.symm (.wt (List.mem_append_right _ g2)))⟩
  ·rw [if_neg e, har hrr.1]
   split
   ·rename_i e2
    rw [e2, hxs] at u1
    exact ⟨u, mrg_left u1, hE u2⟩
   ·exact ⟨u, u1, hE u2⟩
 ·obtain ⟨c1, c2, c3, c4⟩ := co X v hX hv
  obtain ⟨e, -, m2⟩ := hmt X v hX hv
  have hroot : ∀ r, 0 ≤ r → r < (N.length : Int) → par (p.set b.toNat a) r = r → r ≠ b ∧ par p r = r := fun r r0 r1 hr => by
   rw [par_set rb.1 rb.2 r r0] at hr
   split at hr
   ·rename_i e; rw [e] at hr; exact absurd hr hab
   ·rename_i e; exact ⟨e, hr⟩
  refine ⟨fun x r x0 x1 hr => ?_, fun w hw => ?_, fun r r0 r1 hr => ?_, fun r r0 r1 hr y hy => ?_⟩
  ·obtain ⟨r', h1, rfl⟩ := hold x0 x1 hr
   have := c1 x r' x0 x1 h1
   split
   ·rename_i e2
    rw [this, e2, e]
   ·exact this
  ·rcases List.mem_append.1 hw with hw | hw
   ·exact c2 w (List.mem_append_left _ hw)
   ·obtain ⟨f, e1, e2⟩ := mrg_prs hw
    rw [← hxs] at e1
    rw [← hys] at e2
    have g1 := c4 a ra.1 (by rw [← lp]; exact ra.2) ha _ e1
    have g2 := c4 b rb.1 (by rw [← lp]; exact rb.2) hb _ e2
    rw [← g1, ← g2, e]
  ·obtain ⟨-, h2⟩ := hroot r r0 r1 hr
   rw [hty r0]
   split
   ·rename_i e2; rw [e2]; exact m2
   ·exact c3 r r0 r1 h2
  ·obtain ⟨-, h2⟩ := hroot r r0 r1 hr
   rw [har r0] at hy
   split at hy
   ·rename_i e2
    rw [e2]
    rcases mrg_sub hy with hy | hy
    ·exact c4 a ra.1 (by rw [← lp]; exact ra.2) ha y (by rw [hxs]; exact hy)
    ·rw [e]
     exact c4 b rb.1 (by rw [← lp]; exact rb.2) hb y (by rw [hys]; exact hy)
   ·exact c4 r r0 r1 h2 y hy
end
end
/- Functions of unify.classes: join. -/
section
theorem filter_less {l : List Nat} {f g : Nat → Bool} {b : Nat} (hn : l.Nodup) (hb : b ∈ l) (h1 : f b = true) (h2 : g b = false) (h : ∀ x ∈ l, x ≠ b → g x = f x) : (l.filter g).length + 1 = (l.filter f).length := by
 induction l with
 | nil => cases hb
 | cons x l ih =>
  obtain ⟨hx, hn2⟩ := List.nodup_cons.1 hn
  by_cases e : x = b
  ·subst e
   have : l.filter g = l.filter f := List.filter_congr fun y hy => h y (by simp [hy]) (fun e => hx (e ▸ hy))
   rw [List.filter_cons, List.filter_cons, if_neg (by rw [h2]; simp), if_pos h1, this]
   rfl
  ·have hb2 : b ∈ l := by
    rcases List.mem_cons.1 hb with g | g
    ·exact absurd g.symm e
    ·exact g
   have ih2 := ih hn2 hb2 (fun y hy => h y (by simp [hy]))
   rw [List.filter_cons, List.filter_cons, h x (by simp) e]
   split
   ·simp only [List.length_cons]; omega
   ·exact ih2
def nR (p : List Int) : Nat := ((List.range p.length).filter fun k => p.getD k 0 == (k : Int)).length
theorem nR_le (p : List Int) : nR p ≤ p.length := by
 have := List.length_filter_le (fun k => p.getD k 0 == (k : Int)) (List.range p.length)
 rw [List.length_range] at this
 exact this
theorem nR_same {p q : List Int} (h : SameRt p q) : nR q = nR p := by
 unfold nR
 rw [← h.1]
 refine congrArg List.length (List.filter_congr fun k hk => ?_)
 have hk2 := List.mem_range.1 hk
 have := same_root h (r := (k : Int)) (by omega) (by omega)
 unfold par at this
 rw [Int.toNat_natCast] at this
 rw [Bool.eq_iff_iff, beq_iff_eq, beq_iff_eq]
 exact this.symm
theorem nR_link {p : List Int} {a b : Int} (b0 : 0 ≤ b) (b1 : b < (p.length : Int)) (hb : par p b = b) (hab : a ≠ b) : nR (p.set b.toNat a) + 1 = nR p := by
 unfold nR
 rw [List.length_set]
 refine filter_less (b := b.toNat) List.nodup_range (List.mem_range.2 (by omega)) ?_ ?_ fun x _ hx => ?_
 ·rw [beq_iff_eq]
  unfold par at hb
  omega
 ·rw [getD_set_self _ _ _ (by omega), beq_eq_false_iff_ne]
  omega
 ·rw [getD_set_ne _ _ _ (by omega)]
theorem nodup_le3 {α : Type} [DecidableEq α] : ∀ {l l' : List α}, l.Nodup → (∀ x ∈ l, x ∈ l') → l.length ≤ l'.length
 | [], _, _, _ => by simp
 | x :: l, l', hn, h => by
  obtain ⟨hx, hn2⟩ := List.nodup_cons.1 hn
  have hm := h x (by simp)
  have := nodup_le3 (l := l) (l' := l'.erase x) hn2 (fun y hy => (List.mem_erase_of_ne (fun e : y = x => hx (by rw [← e]; exact hy))).2 (h y (by simp [hy])))
  rw [List.length_erase_of_mem hm] at this
  have := List.length_pos_of_mem hm
  simp only [List.length_cons]
  omega
theorem str_len {l : List (Int × Int)} (h : Str l) {S : List Int} (hs : ∀ a ∈ l, a.1 ∈ S) : l.length ≤ S.length := by
 have hn : (l.map (·.1)).Nodup := by
  unfold List.Nodup
  rw [List.pairwise_map]
  exact h.imp fun g => by omega
 have := nodup_le3 hn (l' := S) (fun x hx => by
  obtain ⟨a, ha, rfl⟩ := List.mem_map.1 hx
  exact hs a ha)
 rwa [List.length_map] at this
theorem ji_start {h : HierD} {N : List GNode} {P : List (Int × Int)} {p ty : List Int} {ar : List (List (Int × Int))} (hj : JI h N P p ty ar []) {a b : Int} (ha : 0 ≤ a ∧ a < (N.length : Int)) (hb : 0 ≤ b ∧ b < (N.length : Int)) : JI h N (P ++ [(a, b)]) p ty ar [(a, b)] := by
 obtain ⟨nty, fo, lp, lt, la, wr, tyr, arr, srt, sp, st, sa, co⟩ := hj
 have hE : ∀ {x y}, EG N.length p [] x y → EG N.length p [(a, b)] x y := fun {x y} g => g.mono (fun x y r x0 x1 y0 y1 h1 h2 => .cls x0 x1 y0 y1 h1 h2) (fun x y hxy => by cases hxy)
 refine ⟨nty, fo, lp, lt, la, fun w hw => ?_, tyr, arr, srt, fun q hq => ?_, st, fun x r x0 x1 hr y hy => ?_, fun X v hX hv => ?_⟩
 ·have e : w = (a, b) := by simpa using hw
  subst e
  exact ⟨ha, hb⟩
 ·rcases List.mem_append.1 hq with hq | hq
  ·exact hE (sp q hq)
  ·have e : q = (a, b) := by simpa using hq
   subst e
   exact .wt (by simp)
 ·obtain ⟨u, h1, h2⟩ := sa x r x0 x1 hr y hy
  exact ⟨u, h1, hE h2⟩
 ·obtain ⟨c1, c2, c3, c4⟩ := co X v hX ⟨hv.rng, hv.ty, hv.arc, fun q hq => hv.eq q (List.mem_append_left _ hq)⟩
  refine ⟨c1, fun w hw => ?_, c3, c4⟩
  have e : w = (a, b) := by simpa using hw
  subst e
  exact hv.eq _ (by simp)
def clJ (h : HierD) (p ty : List Int) (ar : List (List (Int × Int))) : List (Nat × Obj) := [(101, .box 94 true [.p T29 h, .sr 102 T3 0 p.length, .sr 103 T3 0 ty.length, .sr 104 T86 0 ar.length]), (102, .arr 3 T3 p), (103, .arr 3 T3 ty), (104, .arr 86 T86 ar)]
theorem join_ok (h : HierD) (hk : HOk h) {N : List GNode} {P : List (Int × Int)} {p ty : List Int} {ar : List (List (Int × Int))} (hj : JI h N P p ty ar []) {a b : Int} (ha : 0 ≤ a ∧ a < (N.length : Int)) (hb : 0 ≤ b ∧ b < (N.length : Int)) (hN : N.length ≤ 10000) (hF : (featsN N).length ≤ 1000000) :
  CallM Tryz.prog 61 [.bp 101 [] 0, .p T3 a, .p T3 b] (clJ h p ty ar) [101]
  (fun res objs' => (res = .p .bool true ∧ ∃ p' ty' ar', objs' = clJ h p' ty' ar' ∧ JI h N (P ++ [(a, b)]) p' ty' ar' []) ∨ (res = .p .bool false ∧ (∃ p' ty' ar', objs' = clJ h p' ty' ar') ∧ ∀ X v, TyOk h X → ¬ XOk h N (P ++ [(a, b)]) X v)) := by
 refine fnM_ok Tryz.func61 (by kernel_rfl) rfl Tryz.ntmps61 (by simp only [List.length_cons, List.length_nil]; omega) (by kernel_rfl) rfl rfl (tyTab_ok []) fns_nil ?_
 intro w0 K O0 ρ0 hc hok1 hok2
 have hh : h.1.length ≤ 100000 := Nat.le_trans hk.2 (by omega)
 have hhc : ∀ x ∈ h.1, x.2.1.length ≤ 100000 := fun x hx => Nat.le_trans (hk.1.wid x.2.1 (List.mem_map.2 ⟨x, hx, rfl⟩)) (by omega)
 have hj0 := ji_start hj ha hb
 generalize hQ : P ++ [(a, b)] = Q at *
 have hBB : N.length * ((featsN N).length + 1) ≤ 10000 * 1000001 := Nat.mul_le_mul hN (by omega)
 simp only [clJ, argEnv]
 repeat' (first | exact trivial | refine eS rfl ?_ | refine ev_out_inv ?_ | refine rX [0, 1, 2, 3, 6, 7, 8, 9, 10, 11, 19, 48] hc ?_ ?_ | (refine rC (fun hcond => ?_) (fun hcond => ?_) <;> try (cases hcond; done)))
 refine ev_loop (ι := {s : (List Int × List Int × List (List (Int × Int))) × (List (Int × Int) × Nat) // JI h N Q s.1.1 s.1.2.1 s.1.2.2 (s.2.1.take s.2.2) ∧ s.2.2 ≤ s.2.1.length ∧ nR s.1.1 * ((featsN N).length + 1) + s.2.2 ≤ N.length * ((featsN N).length + 1) + 1}) (fun s => ⟨[(3, .bp 3 [] 0), (7, .bp 7 [] 0), (8, .clo 101 [3, 7])], [(101, .box 94 true [.p T29 h, .sr 102 T3 0 s.1.1.1.length, .sr 103 T3 0 s.1.1.2.1.length, .sr 104 T86 0 s.1.1.2.2.length]), (102, .arr 3 T3 s.1.1.1), (103, .arr 3 T3 s.1.1.2.1), (104, .arr 86 T86 s.1.1.2.2), (3, .box 91 false [.bp 101 [] 0]), (7, .box 159 false [.sr 15 T158 0 s.1.2.2]), (15, .arr 158 T158 s.1.2.1)]⟩) (fun s => nR s.1.1.1 * ((featsN N).length + 1) + s.1.2.2) ⟨((p, ty, ar), ([(a, b)], 1)), hj0, by simp, by have := Nat.mul_le_mul_right ((featsN N).length + 1) (nR_le p); rw [hj.lp] at this; simp only; omega⟩ (ent_match [(101, .nm 101), (102, .nm 102), (103, .nm 103), (104, .nm 104), (3, .nm 3), (7, .nm 7), (15, .nm 15)] rfl rfl ?_ ?_) (fun s => ?_)
 ·first | exact eN | refine eM ?_
 ·first | exact eN | refine eM ?_
 ·obtain ⟨⟨⟨q, tq, aq⟩, V, k⟩, hJ, hkl, hB⟩ := s
  simp only at hJ hkl hB ⊢
  repeat' (first | exact trivial | refine eS rfl ?_ | refine ev_out_inv ?_ | refine rX [0, 1, 2, 3, 6, 7, 8, 9, 10, 11, 19, 48] hc ?_ ?_ | (refine rC (fun hcond => ?_) (fun hcond => ?_) <;> try (cases hcond; done)))
  ·exact eV
  ·exact eV
  ·have hk0 : 0 < k := Int.ofNat_lt.1 hcond
   have hkm : ((k : Int) - 1).toNat = k - 1 := by omega
   have hV := take_snoc V (0, 0) (k := k - 1) (by omega)
   rw [show k - 1 + 1 = k by omega] at hV
   rw [hkm]
   generalize hst : V.getD (k - 1) (0, 0) = st at *
   obtain ⟨s, t⟩ := st
   rw [hV] at hJ
   obtain ⟨⟨s0, s1⟩, t0, t1⟩ := hJ.wr (s, t) (by simp)
   simp only at s0 s1 t0 t1
   obtain ⟨rk, fo⟩ := hJ.fo
   have ql := hJ.lp
   refine ev_mix drawsAny hc 8 [([0, 1, 2], 3), ([4, 5, 6], 7)] [] (by kernel_rfl) (mxA ?_ ?_)
   ·trivial
   ·refine mxC hc (find_ok h tq aq rk fo s0 (by rw [ql]; exact s1)) [(1, .nm 101), (2, .nm 102), (3, .nm 103), (4, .nm 104)] [102, 103, 104] ?_ ?_ ?_
    ·first | exact eN | refine eM ?_
    ·simp only [clO]
     first | exact eN | refine eM ?_
    ·rintro _ _ ⟨q1, r1, rfl, rfl, fo1, sm1, rt1⟩
     refine ⟨[(101, .nm 1), (102, .nm 2), (103, .nm 3), (104, .nm 4)], .p T3 r1, [(101, .box 94 true [.p T29 h, .sr 102 T3 0 q1.length, .sr 103 T3 0 tq.length, .sr 104 T86 0 aq.length]), (102, .arr 3 T3 q1), (103, .arr 3 T3 tq), (104, .arr 86 T86 aq)], rfl, rfl, ?_, ?_, rfl, rfl, rfl, ?_⟩
     ·simp only [clO]
      first | exact eN | refine eM ?_
     ·first | exact eN | refine eM ?_
     ·refine mxA ?_ ?_
      ·trivial
      ·refine mxC hc (find_ok h tq aq rk fo1 t0 (by rw [← sm1.1, ql]; exact t1)) [(1, .nm 101), (2, .nm 102), (3, .nm 103), (4, .nm 104)] [102, 103, 104] ?_ ?_ ?_
       ·first | exact eN | refine eM ?_
       ·simp only [clO]
        first | exact eN | refine eM ?_
       ·rintro _ _ ⟨q2, r2, rfl, rfl, fo2, sm2, rt2⟩
        refine ⟨[(101, .nm 1), (102, .nm 2), (103, .nm 3), (104, .nm 4)], .p T3 r2, [(101, .box 94 true [.p T29 h, .sr 102 T3 0 q2.length, .sr 103 T3 0 tq.length, .sr 104 T86 0 aq.length]), (102, .arr 3 T3 q2), (103, .arr 3 T3 tq), (104, .arr 86 T86 aq)], rfl, rfl, ?_, ?_, rfl, rfl, rfl, ?_⟩
        ·simp only [clO]
         first | exact eN | refine eM ?_
        ·first | exact eN | refine eM ?_
        ·refine mxE [0, 1, 2, 3, 6, 7, 8, 9, 10, 11, 19, 48] hc ?_ ?_ ?_
         ·trivial
         ·trivial
         ·repeat' (first | exact trivial | refine eS rfl ?_ | refine ev_out_inv ?_ | refine rX [0, 1, 2, 3, 6, 7, 8, 9, 10, 11, 19, 48] hc ?_ ?_ | (refine rC (fun hcond => ?_) (fun hcond => ?_) <;> try (cases hcond; done)))
          have hJ2 := ji_same (sm1.trans sm2) ⟨rk, fo2⟩ hJ
          have sm := sm1.trans sm2
          have hs2 := (sm.2 s r1 s0 (by rw [ql]; exact s1)).1 rt1
          have ht2 := (sm2.2 t r2 t0 (by rw [← sm1.1, ql]; exact t1)).1 rt2
          have q2l := hJ2.lp
          have g1 := rt_rng fo2 s0 (by rw [q2l]; exact s1) hs2
          have g2 := rt_rng fo2 t0 (by rw [q2l]; exact t1) ht2
          refine evP hc 4 ?_ ?_
          ·trivial
          ·by_cases he : r1 = r2
           ·subst he
            rw [show (r1 != r1) = false from bne_self_eq_false r1]
            refine rL [0, 1, 2, 3, 6, 7, 8, 9, 10, 11, 19, 48] hc ?_ ?_
            ·trivial
            ·repeat' (first | exact trivial | refine eS rfl ?_ | refine ev_out_inv ?_ | refine rX [0, 1, 2, 3, 6, 7, 8, 9, 10, 11, 19, 48] hc ?_ ?_ | (refine rC (fun hcond => ?_) (fun hcond => ?_) <;> try (cases hcond; done)))
             have hJ3 := ji_skip hJ2 hs2 ht2
             have hn := nR_same sm
             refine ⟨⟨((q2, tq, aq), V, k - 1), hJ3, by simp only; omega, by simp only; rw [hn]; omega⟩, by simp only; rw [hn]; omega, ent_match [(101, .nm 101), (102, .nm 102), (103, .nm 103), (104, .nm 104), (3, .nm 3), (7, .nm 7), (15, .nm 15)] rfl rfl ?_ ?_⟩
             ·first | exact eN | refine eM ?_
             ·first | exact eN | refine eM ?_
           ·rw [show (r1 != r2) = true by simpa using he]
            refine rN 3 hc ?_ ?_
            ·trivial
            ·have hla := fun r : Int => str_len (hJ2.srt r.toNat) (fun a ha => (hJ2.arr r.toNat a ha).2)
             refine clG hc (merge_ok h hh hhc q2 tq aq V (k - 1) (by omega) (by omega) g1.1 g1.2 g2.1 g2.2 (by rw [hJ2.lt, q2l]) (by rw [hJ2.la, q2l]) (hJ2.tyr r1 g1.1 (by rw [← q2l]; exact g1.2)) (hJ2.tyr r2 g2.1 (by rw [← q2l]; exact g2.2)) (Nat.le_trans (hla r1) (by omega)) (Nat.le_trans (hla r2) (by omega))) [(1, .nm 101), (2, .nm 102), (3, .nm 103), (4, .nm 104), (5, .nm 3), (6, .nm 7), (7, .nm 15)] [102, 103, 104, 15] ?_ ?_ ?_
             ·first | exact eN | refine eM ?_
             ·simp only [mgO]
              first | exact eN | refine eM ?_
             ·rintro res objs' (⟨e1, rfl, rfl⟩ | ⟨e1, rfl, W', hi', hw1, hw2, rfl⟩)
              ·refine ⟨[(101, .nm 1), (102, .nm 2), (103, .nm 3), (104, .nm 4), (3, .nm 5), (7, .nm 6), (15, .nm 7)], .p .bool false, [(101, .box 94 true [.p T29 h, .sr 102 T3 0 q2.length, .sr 103 T3 0 tq.length, .sr 104 T86 0 aq.length]), (102, .arr 3 T3 q2), (103, .arr 3 T3 tq), (104, .arr 86 T86 aq), (3, .box 91 false [.bp 101 [] 0]), (7, .box 159 false [.sr 15 T158 0 (k - 1)]), (15, .arr 158 T158 V)], rfl, rfl, ?_, ?_, rfl, rfl, ?_⟩
               ·simp only [mgO]
                first | exact eN | refine eM ?_
               ·first | exact eN | refine eM ?_
               ·refine rL [0, 1, 2, 3, 6, 7, 8, 9, 10, 11, 19, 48] hc ?_ ?_
                ·trivial
                ·repeat' (first | exact trivial | refine eS rfl ?_ | refine ev_out_inv ?_ | refine rX [0, 1, 2, 3, 6, 7, 8, 9, 10, 11, 19, 48] hc ?_ ?_ | (refine rC (fun hcond => ?_) (fun hcond => ?_) <;> try (cases hcond; done)))
                 refine Ev.ent (σ' := ⟨[(6, .p .bool false)], clJ h q2 tq aq⟩) ?_ (ent_match [(101, .nm 101), (102, .nm 102), (103, .nm 103), (104, .nm 104)] rfl rfl ?_ ?_)
                 ·exact ev_finM hc [.tmp 6] rfl (.inl rfl) (.p .bool false) eT (.inr ⟨rfl, ⟨q2, tq, aq, rfl⟩, fun X v hX hv => by
                   have := (ji_meet hk hJ2 hs2 ht2 hX hv).2.1
                   rw [e1] at this
                   cases this⟩)
                 ·unfold clJ
                  first | exact eN | refine eM ?_
                 ·first | exact eN | refine eM ?_
              ·refine ⟨[(101, .nm 1), (102, .nm 2), (103, .nm 3), (104, .nm 4), (3, .nm 5), (7, .nm 6), (15, .nm 7)], .p .bool true, [(101, .box 94 true [.p T29 h, .sr 102 T3 0 (q2.set r2.toNat r1).length, .sr 103 T3 0 (tq.set r1.toNat (meetF h (tq.getD r1.toNat 0) (tq.getD r2.toNat 0)).1).length, .sr 104 T86 0 (aq.set r1.toNat (mrgF (aq.getD r1.toNat []) (aq.getD r2.toNat [])).1).length]), (102, .arr 3 T3 (q2.set r2.toNat r1)), (103, .arr 3 T3 (tq.set r1.toNat (meetF h (tq.getD r1.toNat 0) (tq.getD r2.toNat 0)).1)), (104, .arr 86 T86 (aq.set r1.toNat (mrgF (aq.getD r1.toNat []) (aq.getD r2.toNat [])).1)), (3, .box 91 false [.bp 101 [] 0]), (7, .box 159 false [.sr 15 T158 0 hi']), (15, .arr 158 T158 W')], rfl, rfl, ?_, ?_, rfl, rfl, ?_⟩
               ·simp only [mgO]
                first | exact eN | refine eM ?_
               ·first | exact eN | refine eM ?_
               ·refine rL [0, 1, 2, 3, 6, 7, 8, 9, 10, 11, 19, 48] hc ?_ ?_
                ·trivial
                ·repeat' (first | exact trivial | refine eS rfl ?_ | refine ev_out_inv ?_ | refine rX [0, 1, 2, 3, 6, 7, 8, 9, 10, 11, 19, 48] hc ?_ ?_ | (refine rC (fun hcond => ?_) (fun hcond => ?_) <;> try (cases hcond; done)))
                 have hJ3 := ji_merge hk hJ2 hs2 ht2 he e1
                 rw [← hw2] at hJ3
                 have hn := nR_same sm
                 have hn2 := nR_link (a := r1) g2.1 g2.2 ht2.root he
                 have hpr : (mrgF (aq.getD r1.toNat []) (aq.getD r2.toNat [])).2.length ≤ (featsN N).length := Nat.le_trans mrg_num (hla r1)
                 have hwl := congrArg List.length hw2
                 rw [List.length_append, List.length_take, List.length_take] at hwl
                 have hm : nR q2 * ((featsN N).length + 1) = nR (q2.set r2.toNat r1) * ((featsN N).length + 1) + ((featsN N).length + 1) := by rw [← hn2, Nat.add_mul, Nat.one_mul]
                 rw [hn] at hm
                 refine ⟨⟨((q2.set r2.toNat r1, tq.set r1.toNat (meetF h (tq.getD r1.toNat 0) (tq.getD r2.toNat 0)).1, aq.set r1.toNat (mrgF (aq.getD r1.toNat []) (aq.getD r2.toNat [])).1), W', hi'), hJ3, hw1, by simp only; omega⟩, by simp only; omega, ent_match [(101, .nm 101), (102, .nm 102), (103, .nm 103), (104, .nm 104), (3, .nm 3), (7, .nm 7), (15, .nm 15)] rfl rfl ?_ ?_⟩
                 ·first | exact eN | refine eM ?_
                 ·first | exact eN | refine eM ?_
  ·have hk0 : k = 0 := by
    have := Int.ofNat_le.1 hcond
    omega
   subst hk0
   rw [List.take_zero] at hJ
   refine Ev.ent (σ' := ⟨[(6, .p .bool true)], clJ h q tq aq⟩) ?_ (ent_match [(101, .nm 101), (102, .nm 102), (103, .nm 103), (104, .nm 104)] rfl rfl ?_ ?_)
   ·exact ev_finM hc [.tmp 6] rfl (.inl rfl) (.p .bool true) eT (.inl ⟨rfl, q, tq, aq, rfl, hJ⟩)
   ·unfold clJ
    first | exact eN | refine eM ?_
   ·first | exact eN | refine eM ?_
end
/- Plain: the graph of the classes. -/
section
open Classical in
/-- The node that stands for a node. -/
noncomputable def rtF (p : List Int) (x : Int) : Int := if h : ∃ r, Rt p x r then h.choose else x
theorem rtF_eq {p : List Int} {x r : Int} (h : Rt p x r) : rtF p x = r := by
 unfold rtF
 rw [dif_pos ⟨r, h⟩]
 exact (Exists.choose_spec (p := fun r => Rt p x r) ⟨r, h⟩).det h
theorem rtF_rt {p : List Int} {rk : Int → Nat} (hp : Fo p rk) {x : Int} (x0 : 0 ≤ x) (x1 : x < (p.length : Int)) : Rt p x (rtF p x) := by
 obtain ⟨r, h, -, -⟩ := hp.root x0 x1
 rw [rtF_eq h]
 exact h
noncomputable def quo (p ty : List Int) (ar : List (List (Int × Int))) : List GNode := (List.range p.length).map fun k => (ty.getD k 0, (ar.getD k []).map fun a => (a.1, rtF p a.2))
theorem quo_len (p ty : List Int) (ar : List (List (Int × Int))) : (quo p ty ar).length = p.length := by simp [quo]
theorem quo_get {p ty : List Int} {ar : List (List (Int × Int))} {n : Int} (n0 : 0 ≤ n) (n1 : n < (p.length : Int)) : (quo p ty ar).getD n.toNat (0, []) = (ty.getD n.toNat 0, (ar.getD n.toNat []).map fun a => (a.1, rtF p a.2)) := by
 unfold quo
 rw [List.getD_eq_getElem?_getD, List.getElem?_map, List.getElem?_range (by omega)]
 rfl
def numM (len : Nat) (o : List Int) : List Int := (List.range len).map fun (k : Nat) => if (k : Int) ∈ o then ((o.idxOf (k : Int) : Nat) : Int) else -1
theorem numM_len (len : Nat) (o : List Int) : (numM len o).length = len := by simp [numM]
theorem numM_get {len : Nat} {o : List Int} {n : Int} (n0 : 0 ≤ n) (n1 : n < (len : Int)) : (numM len o).getD n.toNat 0 = if n ∈ o then (o.idxOf n : Int) else -1 := by
 unfold numM
 rw [List.getD_eq_getElem?_getD, List.getElem?_map, List.getElem?_range (by omega)]
 simp only [Option.map_some, Option.getD_some]
 rw [show ((n.toNat : Nat) : Int) = n by omega]
theorem idxOf_snoc {o : List Int} {n : Int} (h : n ∉ o) : (o ++ [n]).idxOf n = o.length := by
 rw [List.idxOf_append, if_neg h]
 simp
theorem idxOf_pre {o t : List Int} {n : Int} (h : n ∈ o) : (o ++ t).idxOf n = o.idxOf n := by
 rw [List.idxOf_append, if_pos h]
theorem numM_set {len : Nat} {o : List Int} {n : Int} (n0 : 0 ≤ n) (n1 : n < (len : Int)) (h : n ∉ o) : (numM len o).set n.toNat (o.length : Int) = numM len (o ++ [n]) := by
 apply List.ext_getElem
 ·simp [numM]
 ·intro i h1 h2
  rw [List.getElem_set]
  simp only [numM, List.getElem_map, List.getElem_range]
  by_cases e : n.toNat = i
  ·rw [if_pos e]
   have e2 : (i : Int) = n := by omega
   rw [e2, if_pos (by simp), idxOf_snoc h]
  ·rw [if_neg e]
   have e2 : (i : Int) ≠ n := by omega
   by_cases h3 : (i : Int) ∈ o
   ·rw [if_pos h3, if_pos (by simp [h3]), idxOf_pre h3]
   ·rw [if_neg h3, if_neg (by simp [h3, e2])]
theorem idxZ_pre {o t : List Int} {x : Int} (h : x ∈ o) : idxZ (o ++ t) x = idxZ o x := by
 unfold idxZ
 rw [if_pos (List.mem_append_left _ h), if_pos h, idxOf_pre h]
theorem foldD_closed {f : List GNode} (hf : GoodF f) (k : Nat) : ∀ (l : List (Int × Int)) (t : List Int), (∀ a ∈ l, 0 ≤ a.2 ∧ a.2 < (f.length : Int)) → DOk f t → f.length - t.length ≤ k →
  (∀ a ∈ l, a.2 ∈ l.foldl (stepD f k) t) ∧ ∀ x ∈ l.foldl (stepD f k) t, x ∈ t ∨ ∀ a ∈ (f.getD x.toNat (0, [])).2, a.2 ∈ l.foldl (stepD f k) t := by
 intro l
 induction l with
 | nil => exact fun t _ _ _ => ⟨fun a ha => (by cases ha), fun x hx => .inl hx⟩
 | cons a l ih =>
  intro t hl ht hlen
  simp only [List.foldl_cons]
  have hstep : DOk f (stepD f k t a) ∧ t <+: stepD f k t a ∧ a.2 ∈ stepD f k t a ∧ ∀ x ∈ stepD f k t a, x ∈ t ∨ ∀ b ∈ (f.getD x.toNat (0, [])).2, b.2 ∈ stepD f k t a := by
   unfold stepD
   split
   ·rename_i hn
    exact ⟨ht, List.prefix_refl _, hn, fun x hx => .inl hx⟩
   ·rename_i hn
    have q := hl a (by simp)
    obtain ⟨g1, g2⟩ := dfs_ok hf k t a.2 ht q.1 q.2 hn
    obtain ⟨g3, g4⟩ := dfs_closed hf k t a.2 ht q.1 q.2 hn hlen
    exact ⟨g1, g2, g3, g4⟩
  obtain ⟨g1, g2, g3, g4⟩ := hstep
  have hle := g2.length_le
  obtain ⟨i1, i2⟩ := ih (stepD f k t a) (fun b hb => hl b (by simp [hb])) g1 (by omega)
  obtain ⟨_, j2⟩ := foldD_ok (dfs_ok hf k) l (stepD f k t a) (fun b hb => hl b (by simp [hb])) g1
  refine ⟨fun b hb => ?_, fun x hx => ?_⟩
  ·rcases List.mem_cons.1 hb with rfl | hb
   ·exact j2.subset g3
   ·exact i1 b hb
  ·rcases i2 x hx with hx | hx
   ·rcases g4 x hx with hx | hx
    ·exact .inl hx
    ·exact .inr fun b hb => j2.subset (hx b hb)
   ·exact .inr hx
def outD (f : List GNode) (o o' : List Int) : List GNode := (o'.drop o.length).map (nodeD f o')
theorem nodeD_pre {f : List GNode} {o t : List Int} {x : Int} (h : ∀ a ∈ (f.getD x.toNat (0, [])).2, a.2 ∈ o) : nodeD f (o ++ t) x = nodeD f o x := by
 unfold nodeD
 refine congrArg _ (List.map_congr_left fun a ha => ?_)
 unfold renD
 rw [idxZ_pre (h a ha)]
theorem outD_app {f : List GNode} {o1 o2 o3 : List Int} (h12 : o1 <+: o2) (h23 : o2 <+: o3) (hc : ∀ x ∈ o2, x ∈ o1 ∨ ∀ a ∈ (f.getD x.toNat (0, [])).2, a.2 ∈ o2) (hn : o2.Nodup) : outD f o1 o2 ++ outD f o2 o3 = outD f o1 o3 := by
 obtain ⟨t, rfl⟩ := h12
 obtain ⟨s, rfl⟩ := h23
 unfold outD
 rw [List.drop_left, List.drop_left, List.append_assoc, List.drop_left, ← List.append_assoc, List.map_append]
 congr 1
 refine List.map_congr_left fun x hx => ?_
 refine (nodeD_pre fun a ha => ?_).symm
 rcases hc x (List.mem_append_right _ hx) with h | h
 ·exact absurd rfl ((List.nodup_append.1 hn).2.2 x h x hx)
 ·exact h a ha
theorem outD_self (f : List GNode) (o : List Int) : outD f o o = [] := by
 unfold outD
 rw [List.drop_length]
 rfl
theorem getD_map2 {α β : Type} (f : α → β) {l : List α} (d : α) (e : β) {i : Nat} (h : i < l.length) : (l.map f).getD i e = f (l.getD i d) := by
 simp [List.getD_eq_getElem?_getD, List.getElem?_eq_getElem h]
structure Plan (Q : List GNode) (o1 : List Int) (L : List (Int × Int)) (j : Nat) (oo : Nat → List Int) : Prop where
 zero : oo 0 = o1
 succ : ∀ i, i < L.length → oo (i + 1) = stepD Q j (oo i) (0, (L.getD i (0, 0)).2)
 dok : ∀ i, DOk Q (oo i)
 pre : ∀ i, o1 <+: oo i
 nxt : ∀ i, oo i <+: oo (i + 1)
 tgt : ∀ i, ∀ a ∈ L.take i, a.2 ∈ oo i
 cls : ∀ i, ∀ x ∈ oo i, x ∈ o1 ∨ ∀ a ∈ (Q.getD x.toNat (0, [])).2, a.2 ∈ oo i
 last : oo L.length = L.foldl (stepD Q j) o1
theorem plan_ok {Q : List GNode} (hQ : GoodF Q) {o1 : List Int} {L : List (Int × Int)} {j : Nat} (hL : ∀ a ∈ L, 0 ≤ a.2 ∧ a.2 < (Q.length : Int)) (h1 : DOk Q o1) (hj : Q.length - o1.length ≤ j) : Plan Q o1 L j (fun i => (L.take i).foldl (stepD Q j) o1) := by
 have hl := fun i => fun a (ha : a ∈ L.take i) => hL a (List.mem_of_mem_take ha)
 have hs : ∀ i, i < L.length → (L.take (i + 1)).foldl (stepD Q j) o1 = stepD Q j ((L.take i).foldl (stepD Q j) o1) (0, (L.getD i (0, 0)).2) := fun i hi => fold_take (stepD Q j) L (0, 0) o1 hi
 have hd := fun i => foldD_ok (dfs_ok hQ j) (L.take i) o1 (hl i) h1
 refine ⟨rfl, hs, fun i => (hd i).1, fun i => (hd i).2, fun i => ?_, fun i => (foldD_closed hQ j _ o1 (hl i) h1 hj).1, fun i => (foldD_closed hQ j _ o1 (hl i) h1 hj).2, by simp only [List.take_length]⟩
 by_cases h : i < L.length
 ·show _ <+: (L.take (i + 1)).foldl (stepD Q j) o1
  rw [hs i h]
  have hr := hL _ (mem_of_take_succ L (0, 0) h)
  exact (foldD_ok (dfs_ok hQ j) [(0, (L.getD i (0, 0)).2)] _ (fun a ha => by
   have e : a = (0, (L.getD i (0, 0)).2) := by simpa using ha
   subst e
   exact hr) (hd i).1).2
 ·show (L.take i).foldl (stepD Q j) o1 <+: (L.take (i + 1)).foldl (stepD Q j) o1
  rw [List.take_of_length_le (by omega), List.take_of_length_le (by omega)]
  exact List.prefix_refl _
theorem set_mid {α : Type} (l : List α) (x y : α) (t : List α) {k : Nat} (hk : k = l.length) : (l ++ [x] ++ t).set k y = l ++ y :: t := by
 subst hk
 rw [List.append_assoc, List.set_append_right _ _ (by omega), Nat.sub_self]
 rfl
theorem outD_node {Q : List GNode} {o o' : List Int} {n : Int} (h : o ++ [n] <+: o') : outD Q o o' = nodeD Q o' n :: outD Q (o ++ [n]) o' := by
 obtain ⟨t, rfl⟩ := h
 unfold outD
 rw [List.drop_left, List.append_assoc, List.drop_left]
 rfl
end
end Go.Proofs.YtebfihindnhccaaGreat.Fw
