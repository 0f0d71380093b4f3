/- Contracts of the program's and the reference's functions, and the plain laws of what they compute: U8 U9 U10 N7 U11 U12 N8 U14 C37 W6 W7 U17 W8 C36 C38 L3 U13 L8. -/
/- Functions of unify.classes: graph's visit. -/
import Derived.Test.YtebfihindnhccaaGreatYC
import Derived.Test.YtebfihindnhccaaGreatYB
set_option linter.unusedVariables false
set_option linter.unusedSimpArgs false
namespace Go.Proofs.YtebfihindnhccaaGreat.Fw
open Go
attribute [local irreducible] Ev
attribute [local go_sem] cx_tb entEnv List.toList_toArray evSeq evG evK vcK guardOf guardT guardB_true guardB_false step1 step0 stepQ takesIn namesParts namesOf namesStore frzAll frz frz1 fixN frzEnv frzObjs drpEnv drpObjs AV.frz AV.frzs AV.drp AV.drps AV.names AV.namess aq qmap qPick qAlloc qBox qBuild qBuildSlice qBuildSlice2 qLoad qLoadB qLoadB2 qLoadE qLoadE2 qLoadE3 qFieldI qOff qPart qField qIndexA qIndex qIndexS qNil qBin qUn qConv qMake qMake2 qSlice qExtract qLen qAppend qAppend2 qAppend3 qMin qMax qCall qCall2 qCall3 qBuiltin qCallee aloud lStoreD lStore lStoreB lStoreB2 lStoreE lStoreE3 lStoreE4 lCallee lBuiltin lAppend lAppend2 lAppend3 lAppend4 opv lk constAV optAV sliceQ bin binI binS binB boolT zf1 zfs pfs AV.cells nthOff loadB offB storeB notAg fitsT fitsO Ty.cell1 fieldOk partsT partsAg argsT asT asT1 asTs pairO srT castTo_self getF setF getP setP offP offF fldT rvAV rvObj rvAVs rvObjs resAV RV.flat Ty.flat Ty.size St.add upd del fresh Value.oneCell' refZ Ty.dflt sub_all sub_one sub_take sub_end List.take_succ_cons List.take_zero List.length_cons cast0 castS sub_app take_app sub_app1 take_app1 take_one1 natC zero_le_natC i64_min i64_max u64_min u64_max u8_min u8_max inK_i64 inK_u64 inK_u8 Option.map_some Option.map_none Option.bind_some Option.getD_some Option.getD_none Option.isNone_none Option.isNone_some Bool.and_true Bool.true_and Bool.and_false Bool.false_and Bool.not_true Bool.not_false if_true if_false List.length_cons List.length_nil and_true true_and and_self List.all_cons List.all_nil List.append_nil List.nil_append List.cons_append List.getElem?_cons_zero List.getElem?_cons_succ List.getElem?_nil List.map_cons List.map_nil List.set_cons_zero List.set_cons_succ List.isEmpty_nil List.isEmpty_cons decide_true decide_false beq_self_eq_true bne_self_eq_false Nat.zero_add Nat.add_zero Nat.sub_zero Int.toNat_natCast Int.toNat_zero Int.toNat_one List.take_length List.length_append List.length_singleton true_or or_true or_self false_or or_false Ty.agg.injEq Ty.slice.injEq Ty.prod.injEq Ty.int.injEq Option.some.injEq beq_iff_eq evM evMG evMQ opM isPick viewE viewS viewG opTs opTmp consE guardM guardM1 guardM2 sideM sideM2 pickM pickM2 sufB chEq_nil chEq_nc chEq_cn chEq_cons memB dstOf Op.operands Call.operands List.filterMap_cons List.filterMap_nil List.append_eq Bool.cond_false_right Bool.cond_true_left cond_true cond_false implies_true decide_eq_true_eq beq_true beq_false Bool.or_true Bool.or_false Bool.true_or Bool.false_or Option.isSome_some fieldV namesAg namesAgs capNs qClo qClo2 qMakeMap qMakeMap2 qMakeMap3 qLook qLook2 qLook3 qLook4 keyT keyP eqT inB lMapUp lMapUp2 lMapUp3 namesMap argEnv cm_tb List.drop_zero pruneR prune rem1 afterM addDst fgtEnv AV.fgt AV.fgts Obj.fgt restObjs handed memB calleeOf opvs matchArgs matchArg List.any_cons List.any_nil evF evFO evFQ evFK addQ frOk qs List.flatMap_cons List.flatMap_nil List.cons_append tn appN fgtEN List.take_succ_cons List.drop_succ_cons isYl parEnv rangeSt cY_tb marked_tb renOk renIn matchObjs matchEnv matchE matchAV matchAVs matchF matchO pureT
attribute [local go_sem] ty1 ty2 ty3 ty4 ty5 ty9 ty12 ty21 ty22 ty23 ty24 ty25 ty26 ty27 ty28 ty29 ty30 ty31 ty32 ty34 ty35 ty36 ty37 ty38 ty39 ty40 ty41 ty42 ty43 ty44 ty45 ty46 ty47 ty48 ty49 ty50 ty51 ty52 ty53 ty54 ty55 ty56 ty57 ty58 ty59 ty60 ty61 ty62 ty63 ty64 ty65 ty66 ty67 ty68 ty69 ty70 ty71 ty72 ty73 ty74 ty75 ty76 ty77 ty78 ty79 ty81 ty82 ty83 ty84 ty85 ty86 ty87 ty88 ty89 ty90 ty91 ty92 ty93 ty94 ty95 ty96 ty97 ty98 ty99 ty100 ty102 ty103 ty104 ty105 ty106 ty107 ty108 ty110 ty112 ty113 ty114 ty115 ty116 ty117 ty118 ty119 ty120 ty121 ty122 ty123 ty124 ty125 ty126 ty127 ty128 ty129 ty130 ty131 ty132 ty133 ty134 ty135 ty137 ty138 ty140 ty141 ty142 ty143 ty144 ty145 ty146 ty147 ty148 ty150 ty151 ty152 ty153 ty154 ty155 ty156 ty157 ty158 ty159 ty160 ty161 ty162 ty163 ty165 ty166 ty167 ty168 ty169 ty170 ty171 ty172 ty173 ty174 ty175 ty176 ty177 ty178 ty179 ty180 ty181 ty182 ty183 ty184 ty185 ty187 ty188 ty189 ty190 ty191 ty192 ty193 ty194 ty195 ty196 ty198 ty199 ty200 ty201 ty202 ty203 ty204 ty205 ty206 ty207 ty208 ty209 ty210 ty211 ty212 ty213 ty214 ty216 ty217 ty218 ty219 ty220 ty221 ty222 ty223 ty224 ty225 ty226 ty227 ty228 ty229 ty230 ty231 ty232 ty233 ty234 ty235 ty236 ty237 ty239 ty240 ty241 ty242 ty243 ty244 ty245 ty246 ty247 ty248 ty249 ty250 ty251 ty252 ty253 ty254 ty255 ty256 ty257 ty258 ty259 ty260 ty262 ty263 ty264 ty265 ty266 ty267 ty268 ty269 ty270 ty271 ty272 ty273 ty274 ty275 ty276 ty277 ty283 ty286 ty287
set_option maxRecDepth 100000
set_option maxHeartbeats 4000000
section
def uO (h : HierD) (p ty : List Int) (ar : List (List (Int × Int))) (M : List Int) (out : List GNode) : List (Nat × Obj) := [(101, .box 94 true [.p T29 h, .sr 102 T3 0 p.length, .sr 103 T3 0 ty.length, .sr 104 T86 0 ar.length]), (102, .arr 3 T3 p), (103, .arr 3 T3 ty), (104, .arr 86 T86 ar), (105, .box 91 false [.bp 101 [] 0]), (106, .box 40 false [.sr 107 T3 0 M.length]), (107, .arr 3 T3 M), (108, .box 25 true [.sr 109 T88 0 out.length]), (109, .arr 88 T88 out), (110, .box 160 false [.clo 103 [105, 106, 108, 110]])]
def VisC (h : HierD) (p0 ty : List Int) (ar : List (List (Int × Int))) (k : Nat) : Prop := ∀ (p o : List Int) (out : List GNode) (n : Int), (∃ rk, Fo p rk) → SameRt p0 p → DOk (quo p0 ty ar) o → out.length = o.length → 0 ≤ n → n < (p0.length : Int) → p0.length - o.length ≤ k →
 CallM Tryz.prog 103 [.p T3 n, .bp 105 [] 0, .bp 106 [] 0, .bp 108 [] 0, .bp 110 [] 0] (uO h p ty ar (numM p0.length o) out) [101, 105, 106, 108, 110]
  (fun res objs' => ∃ p', (∃ rk, Fo p' rk) ∧ SameRt p0 p' ∧ res = .p T3 (idxZ (stepD (quo p0 ty ar) k o (0, rtF p0 n)) (rtF p0 n)) ∧ objs' = uO h p' ty ar (numM p0.length (stepD (quo p0 ty ar) k o (0, rtF p0 n))) (out ++ outD (quo p0 ty ar) o (stepD (quo p0 ty ar) k o (0, rtF p0 n))))
theorem vis_step (h : HierD) {p0 ty : List Int} {ar : List (List (Int × Int))} (hf0 : ∃ rk, Fo p0 rk) (hQ : GoodF (quo p0 ty ar)) (htl : ty.length = p0.length) (hal : ar.length = p0.length) (har : ∀ k, ∀ a ∈ ar.getD k [], 0 ≤ a.2 ∧ a.2 < (p0.length : Int)) (k : Nat) (ih : ∀ j, k = j + 1 → VisC h p0 ty ar j) : VisC h p0 ty ar k := by
 intro p o out n hfo hsm hdo hol n0 n1 hk
 obtain ⟨rk, fo⟩ := hfo
 obtain ⟨rk0, fo0⟩ := hf0
 have hr0 := rtF_rt fo0 n0 n1
 have hr1 := rt_rng fo0 n0 n1 hr0
 have hp := hQ.1
 rw [quo_len] at hp
 have hml := numM_len p0.length o
 generalize hn2 : rtF p0 n = n2 at *
 refine fnM_ok Tryz.func103 (by kernel_rfl) rfl Tryz.ntmps103 (by simp only [List.length_cons, List.length_nil]; omega) (by kernel_rfl) rfl rfl (tyTab_ok []) fns_nil ?_
 intro w0 K O0 ρ0 hc hok1 hok2
 simp only [uO, argEnv]
 repeat' (first | exact trivial | refine eS rfl ?_ | refine ev_out_inv ?_ | refine rX [0, 1, 2, 3, 4, 6, 7, 8, 10, 18, 49, 50, 51, 52] hc ?_ ?_ | (refine rC (fun hcond => ?_) (fun hcond => ?_) <;> try (cases hcond; done)))
 refine cP 2 hc ?_ ?_
 ·trivial
 ·refine rM hc (find_ok h ty ar rk fo n0 (by rw [← hsm.1]; exact n1)) [(1, .nm 101), (2, .nm 102), (3, .nm 103), (4, .nm 104)] [102, 103, 104] ?_ ?_ ?_
  ·first | exact eN | refine eM ?_
  ·simp only [clO]
   first | exact eN | refine eM ?_
  ·rintro _ _ ⟨p1, r1, rfl, rfl, fo1, sm1, rt1⟩
   have sm2 := hsm.trans sm1
   have e := ((hsm.2 n n2 n0 n1).1 hr0).det rt1
   subst e
   refine ⟨[(101, .nm 1), (102, .nm 2), (103, .nm 3), (104, .nm 4)], .p T3 n2, [(101, .box 94 true [.p T29 h, .sr 102 T3 0 p1.length, .sr 103 T3 0 ty.length, .sr 104 T86 0 ar.length]), (102, .arr 3 T3 p1), (103, .arr 3 T3 ty), (104, .arr 86 T86 ar)], rfl, rfl, ?_, ?_, rfl, rfl, ?_⟩
   ·simp only [clO]
    first | exact eN | refine eM ?_
   ·first | exact eN | refine eM ?_
   ·refine rL [0, 1, 2, 3, 4, 6, 7, 8, 10, 18, 49, 50, 51, 52] hc ?_ ?_
    ·trivial
    ·repeat' (first | exact trivial | refine eS rfl ?_ | refine ev_out_inv ?_ | refine rX [0, 1, 2, 3, 4, 6, 7, 8, 10, 18, 49, 50, 51, 52] hc ?_ ?_ | (refine rC (fun hcond => ?_) (fun hcond => ?_) <;> try (cases hcond; done)))
     ·exact ⟨hr1.1, by rw [hml]; exact hr1.2⟩
     ·exact ⟨hr1.1, by rw [hml]; exact hr1.2⟩
     ·rw [numM_get hr1.1 hr1.2] at hcond
      have hin : n2 ∈ o := Classical.byContradiction fun e => by rw [if_neg e] at hcond; omega
      have hst : stepD (quo p0 ty ar) k o (0, n2) = o := if_pos hin
      have hid : idxZ o n2 = (numM p0.length o).getD n2.toNat 0 := by
       rw [numM_get hr1.1 hr1.2, if_pos hin]
       unfold idxZ
       rw [if_pos hin]
      refine Ev.ent (σ' := ⟨[(6, .p T3 (idxZ o n2))], uO h p1 ty ar (numM p0.length o) out⟩) ?_ (ent_match [(101, .nm 101), (102, .nm 102), (103, .nm 103), (104, .nm 104), (105, .nm 105), (106, .nm 106), (107, .nm 107), (108, .nm 108), (109, .nm 109), (110, .nm 110)] rfl rfl ?_ ?_)
      ·refine ev_finM hc [.tmp 6] rfl (.inl rfl) (.p T3 (idxZ o n2)) eT ⟨p1, ⟨rk, fo1⟩, sm2, by rw [hst], ?_⟩
       rw [hst, outD_self, List.append_nil]
       rfl
      ·unfold uO
       first | exact eN | refine eM ?_
      ·first | exact eN | refine eM ?_
       exact hid.symm
     ·exact ⟨hr1.1, by rw [hml]; exact hr1.2⟩
     ·refine ⟨⟨hr1.1, by rw [htl]; exact hr1.2⟩, ?_⟩
      have := hdo.len
      rw [quo_len] at this
      simp only [maxN]
      omega
     ·exact ⟨hr1.1, by rw [hal]; exact hr1.2⟩
     ·rw [numM_get hr1.1 hr1.2] at hcond
      have hno : n2 ∉ o := fun e => by rw [if_pos e] at hcond; omega
      have hd1 := hdo.snoc hr1.1 (by rw [quo_len]; exact hr1.2) hno
      have hl1 := hd1.len
      rw [quo_len, List.length_append, List.length_singleton] at hl1
      obtain ⟨j, rfl⟩ : ∃ j, k = j + 1 := ⟨k - 1, by omega⟩
      have hih := ih j rfl
      have hnode := quo_get (p := p0) (ty := ty) (ar := ar) hr1.1 hr1.2
      have hxr := fun a (ha : a ∈ ar.getD n2.toNat []) => har n2.toNat a ha
      have hxl : (ar.getD n2.toNat []).length ≤ 100000 := by
       have := (hQ.2 _ (mem_of_take_succ (quo p0 ty ar) (0, []) (k := n2.toNat) (by rw [quo_len]; omega))).1
       rw [hnode, List.length_map] at this
       exact this
      have hLr : ∀ a ∈ ((ar.getD n2.toNat []).map fun a => (a.1, rtF p0 a.2)), 0 ≤ a.2 ∧ a.2 < ((quo p0 ty ar).length : Int) := fun a ha => by
       refine arcs_in' hQ (n := n2) ?_
       rw [hnode]
       exact ha
      obtain ⟨oo, hplan⟩ : ∃ oo, Plan (quo p0 ty ar) (o ++ [n2]) ((ar.getD n2.toNat []).map fun a => (a.1, rtF p0 a.2)) j oo := ⟨_, plan_ok hQ (j := j) hLr hd1 (by rw [quo_len, List.length_append, List.length_singleton]; omega)⟩
      have hstep : stepD (quo p0 ty ar) (j + 1) o (0, n2) = ((ar.getD n2.toNat []).map fun a => (a.1, rtF p0 a.2)).foldl (stepD (quo p0 ty ar) j) (o ++ [n2]) := by
       unfold stepD
       rw [if_neg hno]
       show dfs (quo p0 ty ar) (j + 1) o n2 = _
       rw [dfs_succ, hnode]
       rfl
      rw [← hplan.last, List.length_map] at hstep
      have hlg := fun (i : Nat) (hi : i < (ar.getD n2.toNat []).length) => show (((ar.getD n2.toNat []).map fun a => (a.1, rtF p0 a.2)).getD i (0, 0)) = (((ar.getD n2.toNat []).getD i (0, 0)).1, rtF p0 ((ar.getD n2.toNat []).getD i (0, 0)).2) by
       exact getD_map2 (fun a : Int × Int => (a.1, rtF p0 a.2)) (0, 0) (0, 0) hi
      rw [hol, numM_set hr1.1 hr1.2 hno]
      generalize hxs : ar.getD n2.toNat [] = xs at *
      refine ev_loop (ι := {s : Nat × List Int // s.1 ≤ xs.length ∧ (∃ rk, Fo s.2 rk) ∧ SameRt p0 s.2}) (fun s => ⟨[(0, .p T3 n2), (1, .bp 105 [] 0), (2, .bp 106 [] 0), (3, .bp 108 [] 0), (4, .bp 110 [] 0), (7, .p (.int .i64) (o.length : Int)), (8, .sr 64 T108 0 ((xs.take s.1.1).map fun a => (a.1, idxZ (oo s.1.1) (rtF p0 a.2))).length), (49, .p T86 xs), (50, .p (.int .i64) (xs.length : Int)), (51, .p (.int .i64) (s.1.1 : Int))], uO h s.1.2 ty ar (numM p0.length (oo s.1.1)) (out ++ [(ty.getD n2.toNat 0, [])] ++ outD (quo p0 ty ar) (o ++ [n2]) (oo s.1.1)) ++ [(64, .arr 108 T108 ((xs.take s.1.1).map fun a => (a.1, idxZ (oo s.1.1) (rtF p0 a.2))))]⟩) (fun s => xs.length - s.1.1) ⟨(0, p1), Nat.zero_le _, ⟨rk, fo1⟩, sm2⟩ (ent_match [(101, .nm 101), (102, .nm 102), (103, .nm 103), (104, .nm 104), (105, .nm 105), (106, .nm 106), (107, .nm 107), (108, .nm 108), (109, .nm 109), (110, .nm 110), (64, .nil)] rfl rfl ?_ ?_) (fun s => ?_)
      ·unfold uO
       simp only [hplan.zero, outD_self, List.append_nil]
       first | exact eN | refine eM ?_
       exact ⟨by rw [numM_len, numM_len], hol.symm⟩
      ·first | exact eN | refine eM ?_
      ·obtain ⟨⟨i, q⟩, hi, ⟨rkq, hfq⟩, hsq⟩ := s
       have hpre := hplan.pre i
       have hdi := hplan.dok i
       have hple := hpre.length_le
       have hdl := hdi.len
       rw [List.length_append, List.length_singleton] at hple
       rw [quo_len] at hdl
       have hlen : (out ++ [(ty.getD n2.toNat 0, [])] ++ outD (quo p0 ty ar) (o ++ [n2]) (oo i)).length = (oo i).length := by
        unfold outD
        simp only [List.length_append, List.length_singleton, List.length_map, List.length_drop]
        omega
       have hlen2 : out.length + 1 + (outD (quo p0 ty ar) (o ++ [n2]) (oo i)).length = (oo i).length := by
        rw [← hlen, List.length_append, List.length_append, List.length_singleton]
       simp only [uO]
       repeat' (first | exact trivial | refine eS rfl ?_ | refine ev_out_inv ?_ | refine rX [0, 1, 2, 3, 4, 6, 7, 8, 10, 18, 49, 50, 51, 52] hc ?_ ?_ | (refine rC (fun hcond => ?_) (fun hcond => ?_) <;> try (cases hcond; done)))
       ·exact hcond
       ·have hiL : i < xs.length := Int.ofNat_lt.1 hcond
        have hxi := hxr _ (mem_of_take_succ xs (0, 0) hiL)
        have hsuc := hplan.succ i (by rw [List.length_map]; exact hiL)
        rw [hlg i hiL] at hsuc
        have happ := outD_app hpre (hplan.nxt i) (hplan.cls i) hdi.nd
        have hpre2 := hplan.pre (i + 1)
        have hlen3 : out.length + 1 + (outD (quo p0 ty ar) (o ++ [n2]) (oo (i + 1))).length = (oo (i + 1)).length := by
         have h1 := hpre2.length_le
         rw [List.length_append, List.length_singleton] at h1
         unfold outD
         simp only [List.length_append, List.length_singleton, List.length_map, List.length_drop]
         omega
        have eA : ((xs.take i).map fun a => (a.1, idxZ (oo i) (rtF p0 a.2))) ++ [((xs.getD i (0, 0)).1, idxZ (oo (i + 1)) (rtF p0 (xs.getD i (0, 0)).2))] = (xs.take (i + 1)).map fun a => (a.1, idxZ (oo (i + 1)) (rtF p0 a.2)) := by
         rw [map_take_succ _ xs (0, 0) hiL]
         congr 1
         refine List.map_congr_left fun a ha => ?_
         obtain ⟨t, ht⟩ := hplan.nxt i
         rw [← ht, idxZ_pre (hplan.tgt i (a.1, rtF p0 a.2) (by rw [← List.map_take]; exact List.mem_map.2 ⟨a, ha, rfl⟩))]
        rw [hlen2]
        refine ev_mix drawsAny hc 10 [([3, 4, 5], 6), ([1, 2], 7), ([], 8), ([0], 9)] [] (by kernel_rfl) (mxA ?_ ?_)
        ·trivial
        ·refine mxC hc (hih q (oo i) (out ++ [(ty.getD n2.toNat 0, [])] ++ outD (quo p0 ty ar) (o ++ [n2]) (oo i)) (xs.getD i (0, 0)).2 ⟨rkq, hfq⟩ hsq hdi hlen hxi.1 hxi.2 (by omega)) [(101, .nm 101), (102, .nm 102), (103, .nm 103), (104, .nm 104), (105, .nm 105), (106, .nm 106), (107, .nm 107), (108, .nm 108), (109, .nm 109), (110, .nm 110)] [102, 103, 104, 107, 109] ?_ ?_ ?_
         ·first | exact eN | refine eM ?_
         ·simp only [uO]
          first | exact eN | refine eM ?_
          exact hlen2.symm
         ·rintro _ _ ⟨p', ⟨rk', fo'⟩, sm', rfl, rfl⟩
          rw [← hsuc, List.append_assoc _ _ (outD _ (oo i) _), happ]
          refine ⟨[(101, .nm 101), (102, .nm 102), (103, .nm 103), (104, .nm 104), (105, .nm 105), (106, .nm 106), (107, .nm 107), (108, .nm 108), (109, .nm 109), (110, .nm 110)], .p T3 (idxZ (oo (i + 1)) (rtF p0 (xs.getD i (0, 0)).2)), [(101, .box 94 true [.p T29 h, .sr 102 T3 0 p'.length, .sr 103 T3 0 ty.length, .sr 104 T86 0 ar.length]), (102, .arr 3 T3 p'), (103, .arr 3 T3 ty), (104, .arr 86 T86 ar), (105, .box 91 false [.bp 101 [] 0]), (106, .box 40 false [.sr 107 T3 0 (numM p0.length (oo (i + 1))).length]), (107, .arr 3 T3 (numM p0.length (oo (i + 1)))), (108, .box 25 true [.sr 109 T88 0 (oo (i + 1)).length]), (109, .arr 88 T88 (out ++ [(ty.getD n2.toNat 0, [])] ++ outD (quo p0 ty ar) (o ++ [n2]) (oo (i + 1)))), (110, .box 160 false [.clo 103 [105, 106, 108, 110]])], rfl, rfl, ?_, ?_, rfl, rfl, rfl, ?_⟩
          ·simp only [uO]
           first | exact eN | refine eM ?_
           exact hlen3
          ·first | exact eN | refine eM ?_
          ·refine mxA ?_ ?_
           ·trivial
           ·refine mxL hc [] ?_ ?_
            ·trivial
            ·refine mxA ?_ ?_
             ·trivial
             ·refine mxL hc [] ?_ ?_
              ·trivial
              ·refine mxA ?_ ?_
               ·trivial
               ·refine mxL hc [64] ?_ ?_
                ·rw [List.length_map, List.length_take]
                 simp only [maxN]
                 omega
                ·refine mxE [0, 1, 2, 3, 4, 6, 7, 8, 10, 18, 49, 50, 51, 52] hc ?_ ?_ ?_
                 ·trivial
                 ·trivial
                 ·repeat' (first | exact trivial | refine eS rfl ?_ | refine ev_out_inv ?_ | refine rX [0, 1, 2, 3, 4, 6, 7, 8, 10, 18, 49, 50, 51, 52] hc ?_ ?_ | (refine rC (fun hcond => ?_) (fun hcond => ?_) <;> try (cases hcond; done)))
                  ·exact eV
                  ·refine ⟨⟨(i + 1, p'), hiL, ⟨rk', fo'⟩, sm'⟩, by simp only; omega, ent_match [(101, .nm 101), (102, .nm 102), (103, .nm 103), (104, .nm 104), (105, .nm 105), (106, .nm 106), (107, .nm 107), (108, .nm 108), (109, .nm 109), (110, .nm 110), (64, .nm 64)] rfl rfl ?_ ?_⟩
                   ·simp only [uO, ← eA]
                    first | exact eN | refine eM ?_
                    exact hlen3.symm
                   ·simp only [← eA]
                    first | exact eN | refine eM ?_
       ·exact Int.ofNat_lt.2 (by omega)
       ·have hie : i = xs.length := by
         have := Int.ofNat_le.1 hcond
         omega
        subst hie
        obtain ⟨t, ht⟩ := hpre
        have hid : idxZ (oo xs.length) n2 = (o.length : Int) := by
         rw [← ht, idxZ_pre (by simp)]
         unfold idxZ
         rw [if_pos (by simp), idxOf_snoc hno]
        have hnd : nodeD (quo p0 ty ar) (oo xs.length) n2 = (ty.getD n2.toNat 0, xs.map fun a => (a.1, idxZ (oo xs.length) (rtF p0 a.2))) := by
         unfold nodeD
         rw [hnode]
         simp only [List.map_map]
         rfl
        have hgd : (out ++ [(ty.getD n2.toNat 0, ([] : List (Int × Int)))] ++ outD (quo p0 ty ar) (o ++ [n2]) (oo xs.length)).getD o.length (0, []) = (ty.getD n2.toNat 0, []) := by
         rw [← hol]
         simp [List.getD_eq_getElem?_getD]
        have hout := outD_node (Q := quo p0 ty ar) (hplan.pre xs.length)
        rw [hnd] at hout
        rw [List.take_length, hgd, set_mid out _ _ _ hol.symm, ← hout]
        have hlen4 : out.length + 1 + (outD (quo p0 ty ar) (o ++ [n2]) (oo xs.length)).length = (out ++ outD (quo p0 ty ar) o (oo xs.length)).length := by
         rw [hout]
         simp only [List.length_append, List.length_cons]
         omega
        rw [hlen4]
        refine Ev.ent (σ' := ⟨[(6, .p T3 (idxZ (oo xs.length) n2))], uO h q ty ar (numM p0.length (oo xs.length)) (out ++ outD (quo p0 ty ar) o (oo xs.length))⟩) ?_ (ent_match [(101, .nm 101), (102, .nm 102), (103, .nm 103), (104, .nm 104), (105, .nm 105), (106, .nm 106), (107, .nm 107), (108, .nm 108), (109, .nm 109), (110, .nm 110)] rfl rfl ?_ ?_)
        ·exact ev_finM hc [.tmp 6] rfl (.inl rfl) (.p T3 (idxZ (oo xs.length) n2)) eT ⟨q, ⟨rkq, hfq⟩, hsq, by rw [hstep], by rw [hstep]; rfl⟩
        ·unfold uO
         first | exact eN | refine eM ?_
        ·first | exact eN | refine eM ?_
         exact hid.symm
theorem vis_ok (h : HierD) {p0 ty : List Int} {ar : List (List (Int × Int))} (hf0 : ∃ rk, Fo p0 rk) (hQ : GoodF (quo p0 ty ar)) (htl : ty.length = p0.length) (hal : ar.length = p0.length) (har : ∀ k, ∀ a ∈ ar.getD k [], 0 ≤ a.2 ∧ a.2 < (p0.length : Int)) : ∀ k, VisC h p0 ty ar k
 | 0 => vis_step h hf0 hQ htl hal har 0 (fun j e => by cases e)
 | k + 1 => vis_step h hf0 hQ htl hal har (k + 1) (fun j e => by cases e; exact vis_ok h hf0 hQ htl hal har k)
end
/- Functions of unify.classes: graph. -/
section
theorem numM_nil (len : Nat) : numM len [] = List.replicate len (-1) := by
 unfold numM
 apply List.ext_getElem
 ·simp
 ·intro i h1 h2
  simp
theorem fill_rep {α : Type} (x y : α) {n i : Nat} (h : i < n) : (List.replicate i x ++ List.replicate (n - i) y).set i x = List.replicate (i + 1) x ++ List.replicate (n - (i + 1)) y := by
 obtain ⟨m, hm⟩ : ∃ m, n - i = m + 1 := ⟨n - i - 1, by omega⟩
 have hm2 : n - (i + 1) = m := by omega
 rw [hm, hm2, List.set_append_right _ _ (by simp), List.length_replicate, Nat.sub_self, List.replicate_succ, List.set_cons_zero, List.replicate_succ', List.append_assoc]
 rfl
theorem graph_ok (h : HierD) {p ty : List Int} {ar : List (List (Int × Int))} (hf0 : ∃ rk, Fo p rk) (hQ : GoodF (quo p ty ar)) (htl : ty.length = p.length) (hal : ar.length = p.length) (har : ∀ k, ∀ a ∈ ar.getD k [], 0 ≤ a.2 ∧ a.2 < (p.length : Int)) {r : Int} (r0 : 0 ≤ r) (r1 : r < (p.length : Int)) :
  CallM Tryz.prog 62 [.bp 101 [] 0, .p T3 r] (clJ h p ty ar) [101]
  (fun res _ => res = .p T25 (canonicalF (quo p ty ar) (rtF p r))) := by
 have hvis := vis_ok h hf0 hQ htl hal har p.length p [] [] r hf0 (SameRt.refl p) ⟨by simp, fun x hx => by cases hx⟩ rfl r0 r1 (by simp)
 have hcan : outD (quo p ty ar) [] (stepD (quo p ty ar) p.length [] (0, rtF p r)) = canonicalF (quo p ty ar) (rtF p r) := by
  have e : stepD (quo p ty ar) p.length [] (0, rtF p r) = dfs (quo p ty ar) p.length [] (rtF p r) := if_neg (by simp)
  rw [e]
  unfold outD canonicalF
  rw [quo_len]
  rfl
 rw [List.nil_append, hcan, numM_nil] at hvis
 have hpl := hQ.1
 rw [quo_len] at hpl
 generalize canonicalF (quo p ty ar) (rtF p r) = G at *
 generalize idxZ _ _ = z at hvis
 generalize numM _ _ = M at hvis
 refine fnM_ok Tryz.func62 (by kernel_rfl) rfl Tryz.ntmps62 (by simp only [List.length_cons, List.length_nil]; omega) (by kernel_rfl) rfl rfl (tyTab_ok []) fns_nil ?_
 intro w0 K O0 ρ0 hc hok1 hok2
 simp only [clJ, argEnv]
 repeat' (first | exact trivial | refine eS rfl ?_ | refine ev_out_inv ?_ | refine rX [0, 1, 2, 4, 5, 6, 7, 8, 16, 17, 18] hc ?_ ?_ | (refine rC (fun hcond => ?_) (fun hcond => ?_) <;> try (cases hcond; done)))
 ·simp only [maxN]; omega
 ·refine ev_loop (ι := {i : Nat // i ≤ p.length}) (fun i => ⟨[(0, .bp 101 [] 0), (1, .p T3 r), (2, .bp 2 [] 0), (4, .bp 4 [] 0), (5, .bp 5 [] 0), (16, .p (.int .i64) (p.length : Int)), (17, .p (.int .i64) (i.1 : Int))], [(5, .box 40 false [.sr 14 T3 0 p.length]), (14, .arr 3 T3 (List.replicate i.1 (-1) ++ List.replicate (p.length - i.1) 0)), (4, .box 25 true [.raw (.slice none 0 0)]), (2, .box 91 false [.bp 101 [] 0]), (101, .box 94 true [.p T29 h, .sr 102 T3 0 p.length, .sr 103 T3 0 ty.length, .sr 104 T86 0 ar.length]), (102, .arr 3 T3 p), (103, .arr 3 T3 ty), (104, .arr 86 T86 ar)]⟩) (fun i => p.length - i.1) ⟨0, by omega⟩ (ent_match [(5, .nm 5), (14, .nm 14), (4, .nm 4), (2, .nm 2), (101, .nm 101), (102, .nm 102), (103, .nm 103), (104, .nm 104)] rfl rfl ?_ ?_) (fun i => ?_)
  ·first | exact eN | refine eM ?_
   rfl
  ·first | exact eN | refine eM ?_
  ·obtain ⟨i, hi⟩ := i
   simp only
   repeat' (first | exact trivial | refine eS rfl ?_ | refine ev_out_inv ?_ | refine rX [0, 1, 2, 4, 5, 6, 7, 8, 16, 17, 18] hc ?_ ?_ | (refine rC (fun hcond => ?_) (fun hcond => ?_) <;> try (cases hcond; done)))
   ·exact hcond
   ·exact eV
   ·have hip : i < p.length := Int.ofNat_lt.1 hcond
    refine ⟨⟨i + 1, hip⟩, by simp only; omega, ent_match [(5, .nm 5), (14, .nm 14), (4, .nm 4), (2, .nm 2), (101, .nm 101), (102, .nm 102), (103, .nm 103), (104, .nm 104)] rfl rfl ?_ ?_⟩
    ·first | exact eN | refine eM ?_
     exact fill_rep _ _ hip
    ·first | exact eN | refine eM ?_
   ·have hie : i = p.length := by
     have := Int.ofNat_le.1 hcond
     omega
    subst hie
    rw [Nat.sub_self, List.replicate_zero, List.append_nil]
    refine cP 2 hc ?_ ?_
    ·trivial
    ·refine rM hc (hvis) [(101, .nm 101), (102, .nm 102), (103, .nm 103), (104, .nm 104), (105, .nm 2), (106, .nm 5), (107, .nm 14), (108, .nm 7), (109, .nil), (110, .nm 8)] [102, 103, 104, 14] ?_ ?_ ?_
     ·first | exact eN | refine eM ?_
     ·simp only [uO]
      first | exact eN | refine eM ?_
      exact List.length_replicate.symm
     ·rintro _ _ ⟨p', hfo', sm', rfl, rfl⟩
      refine ⟨[(101, .nm 101), (102, .nm 102), (103, .nm 103), (104, .nm 104), (2, .nm 105), (5, .nm 106), (14, .nm 107), (7, .nm 108), (120, .nm 109), (8, .nm 110)], .p T3 z, [(101, .box 94 true [.p T29 h, .sr 102 T3 0 p'.length, .sr 103 T3 0 ty.length, .sr 104 T86 0 ar.length]), (102, .arr 3 T3 p'), (103, .arr 3 T3 ty), (104, .arr 86 T86 ar), (2, .box 91 false [.bp 101 [] 0]), (5, .box 40 false [.sr 14 T3 0 M.length]), (14, .arr 3 T3 M), (7, .box 25 true [.sr 120 T88 0 G.length]), (120, .arr 88 T88 G), (8, .box 160 false [.clo 103 [2, 5, 7, 8]])], rfl, rfl, ?_, ?_, rfl, rfl, evL_end ?_⟩
      ·simp only [uO]
       first | exact eN | refine eM ?_
      ·first | exact eN | refine eM ?_
      ·refine frzE [120] ?_
       repeat' (first | exact trivial | refine eS rfl ?_ | refine ev_out_inv ?_ | refine rX [0, 1, 2, 4, 5, 6, 7, 8, 16, 17, 18] hc ?_ ?_ | (refine rC (fun hcond => ?_) (fun hcond => ?_) <;> try (cases hcond; done)))
       exact ev_finM hc [.cell 4 25] rfl (.inl rfl) (.p T25 G) eT rfl
end
/- Plain: the graph of the classes is the most general structure into which the nodes go so that the pairs are one. -/
section
structure OrdR (f : List GNode) (r : Int) (o : List Int) : Prop where
 ok : DOk f o
 zero : o.getD 0 0 = r ∧ 0 < o.length
 cl : ∀ n ∈ o, ∀ a ∈ arcsAt f n, a.2 ∈ o
theorem ordR_of {f : List GNode} (hf : GoodF f) {r : Int} (r0 : 0 ≤ r) (r1 : r < (f.length : Int)) : OrdR f r (dfs f f.length [] r) := by
 have h1 := dfs_ok hf f.length [] r (dOk_nil f) r0 r1 (by simp)
 have h2 := dfs_closed hf f.length [] r (dOk_nil f) r0 r1 (by simp) (by simp)
 have h3 : [r] <+: dfs f f.length [] r := by
  obtain ⟨k, hk⟩ : ∃ k, f.length = k + 1 := ⟨f.length - 1, by omega⟩
  rw [hk, dfs_succ]
  exact (foldD_ok (dfs_ok hf k) _ _ (fun a ha => arcs_in' hf ha) ((dOk_nil f).snoc r0 r1 (by simp))).2
 refine ⟨h1.1, ?_, fun n hn a ha => ?_⟩
 ·obtain ⟨t, ht⟩ := h3
  rw [← ht]
  exact ⟨rfl, by simp⟩
 ·rcases h2.2 n hn with h | h
  ·cases h
  ·exact h a ha
theorem canR_get {f : List GNode} {r : Int} {i : Nat} (hi : i < (dfs f f.length [] r).length) : (canonicalF f r).getD i (0, []) = nodeD f (dfs f f.length [] r) ((dfs f f.length [] r).getD i 0) := by
 unfold canonicalF
 simp [List.getD_eq_getElem?_getD, hi]
theorem canR_len (f : List GNode) (r : Int) : (canonicalF f r).length = (dfs f f.length [] r).length := by simp [canonicalF]
def joinN (f g : List GNode) : List GNode := f ++ g.map fun x => (x.1, shiftA f.length x.2)
theorem joinN_len (f g : List GNode) : (joinN f g).length = f.length + g.length := by simp [joinN]
theorem joinN_left {f g : List GNode} {x : Int} (x0 : 0 ≤ x) (x1 : x < (f.length : Int)) : (joinN f g).getD x.toNat (0, []) = f.getD x.toNat (0, []) := by
 unfold joinN
 rw [List.getD_eq_getElem?_getD, List.getD_eq_getElem?_getD, List.getElem?_append_left (by omega)]
theorem joinN_right {f g : List GNode} {y : Int} (y0 : 0 ≤ y) (y1 : y < (g.length : Int)) : (joinN f g).getD ((f.length : Int) + y).toNat (0, []) = ((g.getD y.toNat (0, [])).1, shiftA f.length (g.getD y.toNat (0, [])).2) := by
 unfold joinN
 have e : ((f.length : Int) + y).toNat = f.length + y.toNat := by omega
 rw [e, List.getD_eq_getElem?_getD, List.getElem?_append_right (by omega), Nat.add_sub_cancel_left]
 rw [← List.getD_eq_getElem?_getD]
 exact getD_map2 (fun x : GNode => (x.1, shiftA f.length x.2)) (0, []) (0, []) (by omega)
theorem eg_rt {n : Nat} {p : List Int} {x y : Int} (h : EG n p [] x y) : rtF p x = rtF p y := by
 induction h with
 | cls _ _ _ _ h g => rw [rtF_eq h, rtF_eq g]
 | wt h => cases h
 | symm _ ih => exact ih.symm
 | trans _ _ ih1 ih2 => exact ih1.trans ih2
noncomputable abbrev ordQ (p ty : List Int) (ar : List (List (Int × Int))) : List Int := dfs (quo p ty ar) (quo p ty ar).length [] (rtF p 0)
structure GenOk (h : HierD) (N : List GNode) (P : List (Int × Int)) (U : List GNode) (v : Int → Int) : Prop where
 good : GoodF U
 pos : 0 < U.length
 str : ∀ x ∈ U, Str x.2
 feat : ∀ x ∈ U, ∀ a ∈ x.2, a.1 ∈ featsN N
 ty : TyOk h U
 ro : RO U
 zero : v 0 = 0
 proj : XOk h N P U v
 least : ∀ X w, TyOk h X → XOk h N P X w → w 0 = 0 → ∃ m, Hom h U X m
 len : U.length ≤ N.length
section
variable {h : HierD} {N : List GNode} {P : List (Int × Int)} {p ty : List Int} {ar : List (List (Int × Int))}
theorem reach_ord (hj : JI h N P p ty ar []) (hQ : GoodF (quo p ty ar)) (hN : 0 < N.length) : OrdR (quo p ty ar) (rtF p 0) (ordQ p ty ar) := by
 obtain ⟨rk, fo⟩ := hj.fo
 have lp := hj.lp
 have := rt_rng fo (x := 0) (by omega) (by omega) (rtF_rt fo (by omega) (by omega))
 exact ordR_of hQ this.1 (by rw [quo_len]; exact this.2)
theorem reach_zero (hj : JI h N P p ty ar []) (hQ : GoodF (quo p ty ar)) (hN : 0 < N.length) : rtF p 0 ∈ ordQ p ty ar := by
 have ho := reach_ord hj hQ hN
 have := mem_of_take_succ (ordQ p ty ar) 0 ho.zero.2
 rw [ho.zero.1] at this
 exact this
theorem reach_eq (hj : JI h N P p ty ar []) {x y : Int} (hq : (x, y) ∈ P) (hx : rtF p x ∈ ordQ p ty ar) : rtF p y ∈ ordQ p ty ar := by
 rw [← eg_rt (hj.sp (x, y) hq)]
 exact hx
theorem reach_step (hj : JI h N P p ty ar []) (hQ : GoodF (quo p ty ar)) (hN : 0 < N.length) {x : Int} (x0 : 0 ≤ x) (x1 : x < (N.length : Int)) (hx : rtF p x ∈ ordQ p ty ar) {a : Int × Int} (ha : a ∈ arcsAt N x) : rtF p a.2 ∈ ordQ p ty ar := by
 obtain ⟨rk, fo⟩ := hj.fo
 have lp := hj.lp
 obtain ⟨t, ht, he⟩ := hj.sa x _ x0 x1 (rtF_rt fo x0 (by omega)) a ha
 rw [eg_rt he]
 have hr := rt_rng fo x0 (by omega) (rtF_rt fo x0 (by omega))
 refine (reach_ord hj hQ hN).cl _ hx (a.1, rtF p t) ?_
 rw [arcsAt, quo_get hr.1 hr.2]
 exact List.mem_map.2 ⟨(a.1, t), ht, rfl⟩
def Comp (N : List GNode) (k : Nat) (g : List GNode) : Prop := ∀ i : Int, 0 ≤ i → i < (g.length : Int) → (k : Int) + i < (N.length : Int) ∧ N.getD ((k : Int) + i).toNat (0, []) = ((g.getD i.toNat (0, [])).1, shiftA k (g.getD i.toNat (0, [])).2)
theorem reach_comp (hj : JI h N P p ty ar []) (hQ : GoodF (quo p ty ar)) (hN : 0 < N.length) {k : Nat} {g : List GNode} (hc : Comp N k g) (rg : RO g) (hk : rtF p (k : Int) ∈ ordQ p ty ar) : ∀ (n : Nat) (i : Int), i.toNat ≤ n → 0 ≤ i → i < (g.length : Int) → rtF p ((k : Int) + i) ∈ ordQ p ty ar := by
 intro n
 induction n with
 | zero =>
  intro i hn i0 i1
  have : i = 0 := by omega
  subst this
  rw [Int.add_zero]
  exact hk
 | succ n ih =>
  intro i hn i0 i1
  by_cases hi : i = 0
  ·subst hi
   rw [Int.add_zero]
   exact hk
  ·obtain ⟨j, j0, j1, a, ha, rfl⟩ := rg i (by omega) i1
   have hcj := hc j j0 (by omega)
   have := reach_step hj hQ hN (x := (k : Int) + j) (by omega) hcj.1 (ih j (by omega) j0 (by omega)) (a := (a.1, a.2 + (k : Int))) (by
    rw [arcsAt, hcj.2]
    exact List.mem_map.2 ⟨a, ha, rfl⟩)
   rw [Int.add_comm]
   exact this
end
theorem comp_hom {h : HierD} {N : List GNode} {P : List (Int × Int)} {U : List GNode} {v : Int → Int} (hx : XOk h N P U v) {k : Nat} {g : List GNode} (hc : Comp N k g) (hz : v (k : Int) = 0) : Hom h g U fun i => v ((k : Int) + i) := by
 refine ⟨by show v ((k : Int) + 0) = 0; rw [Int.add_zero]; exact hz, fun i i0 i1 => ?_, fun i i0 i1 => ?_, fun i i0 i1 a ha => ?_⟩
 ·exact hx.rng _ (by omega) (hc i i0 i1).1
 ·have := hx.ty _ (by omega) (hc i i0 i1).1
  rw [(hc i i0 i1).2] at this
  exact this
 ·have := hx.arc _ (by omega) (hc i i0 i1).1 (a.1, a.2 + (k : Int)) (by
   rw [arcsAt, (hc i i0 i1).2]
   exact List.mem_map.2 ⟨a, ha, rfl⟩)
  rw [Int.add_comm (k : Int) a.2]
  exact this
theorem hom_xok {h : HierD} {g X : List GNode} {m : Int → Int} (hm : Hom h g X m) : XOk h g [] X m := ⟨hm.rng, hm.ty, hm.arc, fun q hq => by cases hq⟩
theorem xok_join {h : HierD} {f g X : List GNode} (hf : GoodF f) (hg : GoodF g) {v w : Int → Int} (h1 : XOk h f [] X v) (h2 : XOk h g [] X w) : XOk h (joinN f g) [] X (fun x => if x < (f.length : Int) then v x else w (x - (f.length : Int))) := by
 have hl := joinN_len f g
 refine ⟨fun x x0 x1 => ?_, fun x x0 x1 => ?_, fun x x0 x1 a ha => ?_, fun q hq => by cases hq⟩
 ·rw [hl] at x1
  show _ ∧ _
  try simp only
  split
  ·exact h1.rng x x0 (by assumption)
  ·exact h2.rng _ (by omega) (by omega)
 ·rw [hl] at x1
  try simp only
  by_cases hx : x < (f.length : Int)
  ·rw [if_pos hx, joinN_left x0 hx]
   exact h1.ty x x0 hx
  ·rw [if_neg hx]
   have := joinN_right (f := f) (g := g) (y := x - (f.length : Int)) (by omega) (by omega)
   rw [show (f.length : Int) + (x - (f.length : Int)) = x by omega] at this
   rw [this]
   exact h2.ty _ (by omega) (by omega)
 ·rw [hl] at x1
  try simp only
  by_cases hx : x < (f.length : Int)
  ·rw [if_pos hx]
   rw [arcsAt, joinN_left x0 hx] at ha
   have hr := arcs_in' hf ha
   rw [if_pos hr.2]
   exact h1.arc x x0 hx a ha
  ·rw [if_neg hx]
   have := joinN_right (f := f) (g := g) (y := x - (f.length : Int)) (by omega) (by omega)
   rw [show (f.length : Int) + (x - (f.length : Int)) = x by omega] at this
   rw [arcsAt, this] at ha
   obtain ⟨b, hb, rfl⟩ := List.mem_map.1 ha
   have hr := arcs_in' hg hb
   rw [if_neg (by simp only; omega)]
   try simp only
   rw [show b.2 + (f.length : Int) - (f.length : Int) = b.2 by omega]
   exact h2.arc _ (by omega) (by omega) b hb
theorem xok_eq {h : HierD} {N X : List GNode} {P : List (Int × Int)} {v : Int → Int} (h1 : XOk h N [] X v) (he : ∀ q ∈ P, v q.1 = v q.2) : XOk h N P X v := ⟨h1.rng, h1.ty, h1.arc, he⟩
theorem comp_left {N f g : List GNode} {k : Nat} (h : Comp f k N) : Comp (joinN f g) k N := by
 intro i i0 i1
 have := h i i0 i1
 rw [joinN_len, joinN_left (by omega) this.1]
 exact ⟨by omega, this.2⟩
theorem comp_self {f : List GNode} : Comp f 0 f := by
 intro i i0 i1
 rw [show ((0 : Nat) : Int) + i = i by omega]
 refine ⟨i1, ?_⟩
 have : shiftA 0 (f.getD i.toNat (0, [])).2 = (f.getD i.toNat (0, [])).2 := by
  unfold shiftA
  rw [List.map_congr_left (g := id) (fun a _ => by show (a.1, a.2 + ((0 : Nat) : Int)) = a; rw [Int.natCast_zero, Int.add_zero]), List.map_id]
 rw [this]
theorem comp_right {f g : List GNode} : Comp (joinN f g) f.length g := by
 intro i i0 i1
 rw [joinN_len, joinN_right i0 i1]
 exact ⟨by omega, rfl⟩
set_option maxHeartbeats 1000000 in
theorem gen_ok {h : HierD} {N : List GNode} {P : List (Int × Int)} {p ty : List Int} {ar : List (List (Int × Int))} (hj : JI h N P p ty ar []) (hQ : GoodF (quo p ty ar)) (hN : 0 < N.length) (hall : ∀ x, 0 ≤ x → x < (N.length : Int) → rtF p x ∈ ordQ p ty ar) :
  GenOk h N P (canonicalF (quo p ty ar) (rtF p 0)) (fun x => idxZ (ordQ p ty ar) (rtF p x)) := by
 have ho := reach_ord hj hQ hN
 have hin0 := reach_zero hj hQ hN
 obtain ⟨nty, ⟨rk, fo⟩, lp, lt, la, wr, tyr, arr, srt, sp, st, sa, co⟩ := hj
 have hql := quo_len p ty ar
 have hrt := fun {x : Int} (x0 : 0 ≤ x) (x1 : x < (N.length : Int)) => rtF_rt fo x0 (by rw [lp]; exact x1)
 have hrr := fun {x : Int} (x0 : 0 ≤ x) (x1 : x < (N.length : Int)) => rt_rng fo x0 (by rw [lp]; exact x1) (hrt x0 x1)
 have hUl := canR_len (quo p ty ar) (rtF p 0)
 have hUg := fun i => canR_get (f := quo p ty ar) (r := rtF p 0) (i := i)
 have hqa : ∀ x : Int, 0 ≤ x → x < (N.length : Int) → arcsAt (quo p ty ar) x = (ar.getD x.toNat []).map fun a => (a.1, rtF p a.2) := fun x x0 x1 => by
  rw [arcsAt, quo_get x0 (by rw [lp]; exact x1)]
 have hroots : ∀ x ∈ ordQ p ty ar, (0 ≤ x ∧ x < (N.length : Int)) ∧ par p x = x := by
  have hiso : Iso (quo p ty ar) (quo p ty ar) id (fun x => (0 ≤ x ∧ x < (N.length : Int)) ∧ par p x = x) := by
   refine ⟨fun i _ => by simp, fun i hi a ha => ?_, fun i j _ _ e => e⟩
   rw [hqa i hi.1.1 hi.1.2] at ha
   obtain ⟨b, hb, rfl⟩ := List.mem_map.1 ha
   have hr := (arr _ b hb).1
   have := hrr hr.1 hr.2
   rw [lp] at this
   exact ⟨this, (hrt hr.1 hr.2).root⟩
  have hr0 := hrr (x := 0) (by omega) (by omega)
  rw [lp] at hr0
  exact (dfs_iso hiso _ [] _ (fun x hx => by cases hx) ⟨hr0, (hrt (x := 0) (by omega) (by omega)).root⟩).2
 have hlead := fun (q : Nat) => dfs_lead hQ (quo p ty ar).length [] (rtF p 0) (dOk_nil _) (hrr (x := 0) (by omega) (by omega)).1 (by rw [hql]; exact (hrr (x := 0) (by omega) (by omega)).2) (by simp) q
 unfold ordQ at ho hin0 hall hroots ⊢
 generalize hU : canonicalF (quo p ty ar) (rtF p 0) = U at *
 generalize hod : dfs (quo p ty ar) (quo p ty ar).length [] (rtF p 0) = o at *
 have hmem : ∀ i : Int, 0 ≤ i → i < (o.length : Int) → o.getD i.toNat 0 ∈ o ∧ idxZ o (o.getD i.toNat 0) = i := fun i i0 i1 => by
  refine ⟨mem_of_take_succ o 0 (by omega), ?_⟩
  rw [idxZ_get ho.ok.nd (by omega)]
  omega
 have hnode : ∀ x ∈ o, U.getD (idxZ o x).toNat (0, []) = (ty.getD x.toNat 0, (ar.getD x.toNat []).map fun a => (a.1, idxZ o (rtF p a.2))) := fun x hx => by
  have hz := get_idxZ hx
  have hr := (hroots x hx).1
  rw [hUg _ (by omega), hz.2.2]
  unfold nodeD
  rw [quo_get hr.1 (by rw [lp]; exact hr.2), List.map_map]
  rfl
 have hcl : ∀ x ∈ o, ∀ a ∈ ar.getD x.toNat [], rtF p a.2 ∈ o := fun x hx a ha => by
  have hr := (hroots x hx).1
  exact ho.cl x hx (a.1, rtF p a.2) (by rw [hqa x hr.1 hr.2]; exact List.mem_map.2 ⟨a, ha, rfl⟩)
 have hstr : ∀ k, Str ((ar.getD k []).map fun a => (a.1, idxZ o (rtF p a.2))) := fun k => by
  unfold Str
  rw [List.pairwise_map]
  exact srt k
 have hUm : ∀ x ∈ U, ∃ y ∈ o, x = (ty.getD y.toNat 0, (ar.getD y.toNat []).map fun a => (a.1, idxZ o (rtF p a.2))) := fun x hx => by
  obtain ⟨i, hi, rfl⟩ := mem_getD (0, []) hx
  have h1 := hmem (i : Int) (by omega) (by omega)
  refine ⟨_, h1.1, ?_⟩
  rw [← hnode _ h1.1, h1.2]
  rw [Int.toNat_natCast]
 have hi0 : idxZ o (rtF p 0) = 0 := by
  have := idxZ_get ho.ok.nd ho.zero.2
  rw [ho.zero.1] at this
  exact this
 have hlen := ho.ok.len
 have hQ1 := hQ.1
 refine ⟨⟨by omega, fun x hx => ?_⟩, by rw [hUl]; exact ho.zero.2, fun x hx => ?_, fun x hx a ha => ?_, fun x hx => ?_, fun i i0 i1 => ?_, hi0, ⟨fun i i0 i1 => ?_, fun i i0 i1 => ?_, fun i i0 i1 a ha => ?_, fun q hq => ?_⟩, fun X v hX hv hv0 => ?_, by omega⟩
 ·obtain ⟨y, hy, rfl⟩ := hUm x hx
  have hr := (hroots y hy).1
  refine ⟨?_, fun a ha => ?_⟩
  ·have := (hQ.2 _ (mem_of_take_succ (quo p ty ar) (0, []) (k := y.toNat) (by omega))).1
   rw [quo_get hr.1 (by rw [lp]; exact hr.2), List.length_map] at this
   simp only [List.length_map]
   exact this
  ·obtain ⟨b, hb, rfl⟩ := List.mem_map.1 ha
   have := get_idxZ (hcl y hy b hb)
   rw [hUl]
   exact ⟨this.1, this.2.1⟩
 ·obtain ⟨y, hy, rfl⟩ := hUm x hx
  exact hstr _
 ·obtain ⟨y, hy, rfl⟩ := hUm x hx
  obtain ⟨b, hb, rfl⟩ := List.mem_map.1 ha
  exact (arr _ b hb).2
 ·obtain ⟨y, hy, rfl⟩ := hUm x hx
  have hr := (hroots y hy).1
  exact tyr y hr.1 hr.2
 · -- in order
  obtain ⟨j, j1, a, ha, e⟩ := hlead i.toNat (by simp only [List.length_nil]; omega) (by omega)
  have h1 := hmem (j : Int) (by omega) (by omega)
  have h2 := hmem i (by omega) (by omega)
  rw [Int.toNat_natCast] at h1
  have hr := (hroots _ h1.1).1
  rw [hqa _ hr.1 hr.2] at ha
  obtain ⟨b, hb, rfl⟩ := List.mem_map.1 ha
  refine ⟨(j : Int), by omega, by omega, (b.1, idxZ o (rtF p b.2)), ?_, ?_⟩
  ·have := hnode _ h1.1
   rw [h1.2] at this
   rw [arcsAt, this]
   exact List.mem_map.2 ⟨b, hb, rfl⟩
  ·show idxZ o (rtF p b.2) = i
   simp only at e
   rw [e, h2.2]
 ·have := get_idxZ (hall i i0 i1)
  rw [hUl]
  exact ⟨this.1, this.2.1⟩
 ·show hsubF h _ (U.getD (idxZ o (rtF p i)).toNat (0, [])).1 = true
  rw [hnode _ (hall i i0 i1)]
  exact st i _ i0 i1 (hrt i0 i1)
 ·obtain ⟨t, ht, he⟩ := sa i _ i0 i1 (hrt i0 i1) a ha
  have e := eg_rt he
  show tgtF (arcsAt U (idxZ o (rtF p i))) a.1 = idxZ o (rtF p a.2)
  rw [e, arcsAt, hnode _ (hall i i0 i1)]
  exact tgtF_arc (hstr _) (a := (a.1, idxZ o (rtF p t))) (List.mem_map.2 ⟨(a.1, t), ht, rfl⟩)
 ·show idxZ o (rtF p q.1) = idxZ o (rtF p q.2)
  rw [eg_rt (sp q hq)]
 ·obtain ⟨c1, c2, c3, c4⟩ := co X v hX hv
  refine ⟨fun i => v (o.getD i.toNat 0), ?_, fun i i0 i1 => ?_, fun i i0 i1 => ?_, fun i i0 i1 a ha => ?_⟩
  ·show v (o.getD 0 0) = 0
   rw [ho.zero.1, ← c1 0 _ (by omega) (by omega) (hrt (by omega) (by omega))]
   exact hv0
  ·have h3 := hmem i i0 (by omega)
   have hr := (hroots _ h3.1).1
   exact hv.rng _ hr.1 hr.2
  ·have h3 := hmem i i0 (by omega)
   have hr := hroots _ h3.1
   have hn := hnode _ h3.1
   rw [h3.2] at hn
   rw [hn]
   exact c3 _ hr.1.1 hr.1.2 hr.2
  ·have h3 := hmem i i0 (by omega)
   have hr := hroots _ h3.1
   have hn := hnode _ h3.1
   rw [h3.2] at hn
   rw [arcsAt, hn] at ha
   obtain ⟨b, hb, rfl⟩ := List.mem_map.1 ha
   have h4 := c4 _ hr.1.1 hr.1.2 hr.2 b hb
   have hbr := (arr _ b hb).1
   have h5 := get_idxZ (hcl _ h3.1 b hb)
   simp only
   rw [h5.2.2, ← c1 b.2 _ hbr.1 hbr.2 (hrt hbr.1 hbr.2)]
   exact h4
end
/- Plain: types of one set are one. -/
section
def Nrm (c : List Int) : Prop := c.length = 0 ∨ c.getD (c.length - 1) 0 ≠ 0
theorem normal_nrm (b : List Int) : Nrm (normalF b) := by
 unfold Nrm normalF
 have hl := normN_le b b.length
 rw [List.length_take, Nat.min_eq_left hl]
 rcases norm_last b b.length with h | h
 ·exact .inl h
 ·by_cases h0 : normN b b.length = 0
  ·exact .inl h0
  ·right
   rw [List.getD_eq_getElem?_getD, List.getElem?_take_of_lt (by omega), ← List.getD_eq_getElem?_getD]
   exact h
theorem word_eq {a b : List Int} (ha : Wds a) (hb : Wds b) (h : ∀ i, bitN a i = bitN b i) (k : Nat) : a.getD k 0 = b.getD k 0 := by
 have ua := getD_U64 ha k
 have ub := getD_U64 hb k
 have ua1 := ua.1
 have ua2 := ua.2
 have ub1 := ub.1
 have ub2 := ub.2
 have e : (a.getD k 0).toNat = (b.getD k 0).toNat := by
  refine Nat.eq_of_testBit_eq fun r => ?_
  by_cases hr : r < 64
  ·have := h (64 * k + r)
   unfold bitN at this
   rw [show (64 * k + r) / 64 = k by omega, show (64 * k + r) % 64 = r by omega] at this
   exact this
  ·have big : ∀ n : Nat, n < 18446744073709551616 → n.testBit r = false := fun n hn => by
    have e : (18446744073709551616 : Nat) = 2 ^ 64 := by decide
    rw [e] at hn
    exact Nat.testBit_lt_two_pow (Nat.lt_of_lt_of_le hn (Nat.pow_le_pow_right (by decide) (by omega)))
   rw [big _ (by omega), big _ (by omega)]
 omega
theorem nrm_len {a b : List Int} (hw : ∀ k, a.getD k 0 = b.getD k 0) (hb : Nrm b) : b.length ≤ a.length := by
 rcases hb with h | h
 ·omega
 ·refine Classical.byContradiction fun hc => h ?_
  rw [← hw]
  exact getD_out (by omega)
theorem nrm_eq {a b : List Int} (ha : Wds a) (hb : Wds b) (na : Nrm a) (nb : Nrm b) (h : ∀ i, bitN a i = bitN b i) : a = b := by
 have hw := word_eq ha hb h
 have hl : a.length = b.length := Nat.le_antisymm (nrm_len (fun k => (hw k).symm) na) (nrm_len hw nb)
 refine List.ext_getElem hl fun i h1 h2 => ?_
 have := hw i
 simpa [List.getD_eq_getElem?_getD, h1, h2] using this
theorem ins_perm {α : Type} (l : List α) (x : α) (n : Nat) : List.Perm (l.take n ++ [x] ++ l.drop n) (x :: l) := by
 have h : l.take n ++ [x] ++ l.drop n = l.take n ++ x :: l.drop n := by simp
 rw [h]
 refine List.perm_middle.trans ?_
 rw [List.take_append_drop]
def Apt (l : List ByteArray) : Prop := l.Pairwise fun a b => strEq a b = false
theorem strEq_symm' {a b : ByteArray} (h : strEq a b = false) : strEq b a = false := by
 cases hh : strEq b a with
 | false => rfl
 | true => rw [strEq_symm hh] at h; cases h
theorem putF_apt {l : List ByteArray} {s : ByteArray} (h : Apt l) (hs : ∀ x ∈ l, strEq x s = false) : Apt (putF l s) := by
 unfold putF
 split
 ·exact h
 ·refine (List.Perm.pairwise_iff (fun hxy => strEq_symm' hxy) (ins_perm l s _)).2 ?_
  exact List.pairwise_cons.2 ⟨fun x hx => strEq_symm' (hs x hx), h⟩
theorem namesL_apt {d : List DeclD} (hn : namesF d = 0) : Apt (namesL d) := by
 have key : ∀ k, k ≤ d.length → Apt (namesL (d.take k)) ∧ ∀ s ∈ namesL (d.take k), ∃ i, i < k ∧ (d.getD i d0).1 = s := by
  intro k
  induction k with
  | zero =>
   intro _
   exact ⟨.nil, fun s hs => by cases hs⟩
  | succ k ih =>
   intro hk
   obtain ⟨h1, h2⟩ := ih (by omega)
   have e : namesL (d.take (k + 1)) = putF (namesL (d.take k)) (d.getD k d0).1 := by
    have : d.take (k + 1) = d.take k ++ [d.getD k d0] := take_snoc d d0 (by omega)
    rw [this]
    unfold namesL
    rw [List.foldl_append]
    rfl
   rw [e]
   refine ⟨putF_apt h1 fun x hx => ?_, fun s hs => ?_⟩
   ·obtain ⟨i, hi, rfl⟩ := h2 x hx
    cases hh : strEq (d.getD i d0).1 (d.getD k d0).1 with
    | false => rfl
    | true =>
     have g := dfind_congr d hh
     rw [dfind_at hn (j := i) (by omega), dfind_at hn (j := k) (by omega)] at g
     omega
   ·rcases putF_mem hs with hs | hs
    ·obtain ⟨i, hi, e⟩ := h2 s hs
     exact ⟨i, by omega, e⟩
    ·exact ⟨k, by omega, hs.symm⟩
 have := (key d.length (Nat.le_refl _)).1
 rwa [List.take_length] at this
structure Nd (l : List (List Int)) : Prop where
 nd : l.Nodup
 nrm : ∀ c ∈ l, Nrm c
theorem nd_snoc {l : List (List Int)} {c : List Int} (h : Nd l) (hc : c ∉ l) (hn : Nrm c) : Nd (l ++ [c]) := by
 refine ⟨?_, fun x hx => ?_⟩
 ·rw [List.nodup_append]
  refine ⟨h.nd, by simp, fun x hx y hy e => hc ?_⟩
  have : y = c := by simpa using hy
  rw [← this, ← e]
  exact hx
 ·rcases List.mem_append.1 hx with hx | hx
  ·exact h.nrm x hx
  ·have : x = c := by simpa using hx
   rw [this]
   exact hn
theorem famK_nd {l : List (List Int)} (h : Nd l) (i k : Nat) : Nd (famK l i k) := by
 unfold famK
 split
 ·rename_i hc
  rw [Bool.and_eq_true, Bool.not_eq_true'] at hc
  refine nd_snoc h (fun hm => ?_) (normal_nrm _)
  have : inBF l (andF (l.getD i []) (l.getD k [])) = true := List.any_eq_true.2 ⟨_, hm, by unfold sameF; exact decide_eq_true rfl⟩
  rw [this] at hc
  cases hc.2
 ·exact h
theorem famI_nd {i : Nat} : ∀ {n k : Nat} {l : List (List Int)}, Nd l → Nd (famI i n k l)
 | 0, _, _, h => h
 | n + 1, k, l, h => by
  unfold famI
  split
  ·exact famI_nd (famK_nd h i k)
  ·exact h
theorem famG_nd : ∀ {n i : Nat} {l : List (List Int)}, Nd l → Nd (famG n i l)
 | 0, _, _, h => h
 | n + 1, i, l, h => by
  unfold famG
  split
  ·exact famG_nd (famI_nd h)
  ·exact h
theorem codesL_nd {d : List DeclD} (h3 : check3F d = 0) : Nd (codesL d) := by
 obtain ⟨-, h2, -, hn, hl⟩ := check3_zero h3
 have hnl := namesL_len d d.length
 rw [List.take_length] at hnl
 have hap := namesL_apt hn
 refine ⟨?_, fun c hc => ?_⟩
 ·unfold codesL List.Nodup
  rw [List.pairwise_map, List.pairwise_iff_getElem]
  intro i j hi hj hij e
  have h1 := (List.pairwise_iff_getElem.1 hap) i j hi hj hij
  have g : ∀ k, (hk : k < (namesL d).length) → (namesL d).getD k ByteArray.empty = (namesL d)[k] := fun k hk => by simp [List.getD_eq_getElem?_getD, hk]
  have hw := (code_bit (d := d) (all := namesL d) (by omega) (namesL d)[j] 0).2.1
  have h5 := code_inj hn hl h2 hi hj (by
   rw [g i hi, g j hj, e]
   unfold equalBF
   have := (subset_iff hw hw).2 fun _ h => h
   rw [this]
   rfl)
  rw [g i hi, g j hj, h1] at h5
  cases h5
 ·obtain ⟨s, hs, rfl⟩ := List.mem_map.1 hc
  unfold codeF ofF
  split
  ·exact normal_nrm _
  ·exact .inl rfl
theorem coded_nodup {d : List DeclD} : ∀ {l : List (List Int)} {o : List CodedD}, (o.map (·.2) ++ l).Nodup → ((l.foldl (codedA d) o).map (·.2)).Nodup
 | [], o, h => by simpa using h
 | b :: l, o, h => by
  rw [List.foldl_cons]
  refine coded_nodup ?_
  unfold codedA codedB insC
  have hp := (ins_perm o (nameF d (namesL d) (codesL d) b, b) (insAt (nameF d (namesL d) (codesL d) b, b) o o.length)).map (fun x : CodedD => x.2)
  have hp2 : List.Perm ((o.take (insAt (nameF d (namesL d) (codesL d) b, b) o o.length) ++ [(nameF d (namesL d) (codesL d) b, b)] ++ o.drop (insAt (nameF d (namesL d) (codesL d) b, b) o o.length)).map (fun x : CodedD => x.2) ++ l) (o.map (·.2) ++ b :: l) :=
   (hp.append_right l).trans (List.perm_middle (a := b)).symm
  exact hp2.nodup_iff.2 h
def HInj (h : HierD) : Prop := ∀ a b, 0 ≤ a → a < (h.1.length : Int) → 0 ≤ b → b < (h.1.length : Int) → hsubF h a b = true → hsubF h b a = true → a = b
theorem inj_of {h : HierD} (hk : HOk h) (hn : Nd (h.1.map fun t => t.2.1)) : HInj h := by
 intro a b a0 a1 b0 b1 h1 h2
 have wa := hk.1.wds _ (code_mem a0 a1)
 have wb := hk.1.wds _ (code_mem b0 b1)
 have e : codeT h a = codeT h b := nrm_eq wa wb (hn.nrm _ (code_mem a0 a1)) (hn.nrm _ (code_mem b0 b1)) fun i => by
  rw [Bool.eq_iff_iff]
  exact ⟨(hsub_iff hk b0 b1 a0 a1).1 h2 i, (hsub_iff hk a0 a1 b0 b1).1 h1 i⟩
 have hp := List.pairwise_iff_getElem.1 hn.nd
 have g : ∀ k : Int, 0 ≤ k → (hk : k < (h.1.length : Int)) → codeT h k = (h.1.map fun t => t.2.1)[k.toNat]'(by rw [List.length_map]; omega) := fun k k0 k1 => by
  unfold codeT
  simp [List.getD_eq_getElem?_getD, show k.toNat < h.1.length by omega]
 rw [g a a0 a1, g b b0 b1] at e
 rcases Int.lt_trichotomy a b with hlt | heq | hlt
 ·exact absurd e (hp a.toNat b.toNat (by rw [List.length_map]; omega) (by rw [List.length_map]; omega) (by omega))
 ·exact heq
 ·exact absurd e.symm (hp b.toNat a.toNat (by rw [List.length_map]; omega) (by rw [List.length_map]; omega) (by omega))
theorem compile_inj (d : List DeclD) : HInj (compileF d).1 := by
 refine inj_of (compile_hok d) ?_
 unfold compileF
 split
 ·exact ⟨.nil, fun c h => (by cases h)⟩
 ·rename_i hv
  have hv : (valuesF d).2 = 0 := Classical.byContradiction hv
  have h5 : check5F d = 0 := by
   unfold valuesF at hv
   split at hv
   ·rename_i h; exact absurd hv h
   ·rename_i h; exact Classical.byContradiction h
  obtain ⟨hz, -, -⟩ := check5_zero h5
  obtain ⟨h3, hlen, -⟩ := codesF_zero hz
  have hf : Nd (familyF (codesL d)) := famG_nd (codesL_nd h3)
  have e : ((hierV d).1.map fun t => t.2.1) = (codesR d).map fun x => x.2 := by
   show ((typeG _ _ _).map fun t => t.2.1) = _
   unfold typeG
   rw [List.map_map]
   apply List.ext_getElem
   ·simp
   ·intro i h1 h2
    simp [List.getD_eq_getElem?_getD, show i < (codesR d).length by simpa using h1]
  show Nd ((hierV d).1.map fun t => t.2.1)
  rw [e]
  refine ⟨coded_nodup (by simpa using hf.nd), fun c hc => ?_⟩
  obtain ⟨x, hx, rfl⟩ := List.mem_map.1 hc
  obtain ⟨b, hb, rfl⟩ := codesR_mem.1 hx
  exact hf.nrm b hb
end
/- Plain: maps of structures in order are one; the most general structure of two is one. -/
section
structure VF (h : HierD) (f : List GNode) : Prop where
 good : GoodF f
 pos : 0 < f.length
 ty : TyOk h f
 str : ∀ x ∈ f, Str x.2
 ft : ∀ x ∈ f, ∀ a ∈ x.2, 0 ≤ a.1 ∧ a.1 < (h.2.length : Int)
 can : canonicalF f 0 = f
 ro : RO f
structure HU (h : HierD) : Prop where
 ok : HOk h
 inj : HInj h
 ft : h.2.length ≤ 64
theorem can_idem {Q : List GNode} (hQ : GoodF Q) {r : Int} (r0 : 0 ≤ r) (r1 : r < (Q.length : Int)) : canonicalF (canonicalF Q r) 0 = canonicalF Q r := by
 have ho := ordR_of hQ r0 r1
 have hUl := canR_len Q r
 have hUg := fun i => canR_get (f := Q) (r := r) (i := i)
 generalize hU : canonicalF Q r = U at *
 generalize hod : dfs Q Q.length [] r = o at *
 have hol := ho.ok.len
 have hQ1 := hQ.1
 have hmem : ∀ i : Int, 0 ≤ i → i < (o.length : Int) → o.getD i.toNat 0 ∈ o ∧ idxZ o (o.getD i.toNat 0) = i := fun i i0 i1 => by
  refine ⟨mem_of_take_succ o 0 (by omega), ?_⟩
  rw [idxZ_get ho.ok.nd (by omega)]
  omega
 have harc : ∀ i : Int, 0 ≤ i → i < (o.length : Int) → arcsAt U i = (arcsAt Q (o.getD i.toNat 0)).map (renD o) := fun i i0 i1 => by
  rw [arcsAt, hUg i.toNat (by omega)]
  rfl
 have hiso : Iso U Q (fun i => o.getD i.toNat 0) (fun i => 0 ≤ i ∧ i < (o.length : Int)) := by
  refine ⟨fun i hi => ?_, fun i hi a ha => ?_, fun i j hi hj e => ?_⟩
  ·rw [harc i hi.1 hi.2, List.map_map]
   have : ∀ a ∈ arcsAt Q (o.getD i.toNat 0), ((fun a : Int × Int => (a.1, o.getD a.2.toNat 0)) ∘ renD o) a = a := fun a ha => by
    show (a.1, o.getD (idxZ o a.2).toNat 0) = a
    rw [(get_idxZ (ho.cl _ (hmem i hi.1 hi.2).1 a ha)).2.2]
   rw [List.map_congr_left this, List.map_id']
  ·rw [harc i hi.1 hi.2] at ha
   obtain ⟨b, hb, rfl⟩ := List.mem_map.1 ha
   have := get_idxZ (ho.cl _ (hmem i hi.1 hi.2).1 b hb)
   exact ⟨this.1, this.2.1⟩
  ·have h1 := (hmem i hi.1 hi.2).2
   have h2 := (hmem j hj.1 hj.2).2
   have e : o.getD i.toNat 0 = o.getD j.toNat 0 := e
   rw [← h1, ← h2, e]
 have h0 : (0 : Int) < (o.length : Int) := by have := ho.zero.2; omega
 have hUgood : GoodF U := by
  refine ⟨by omega, fun x hx => ?_⟩
  obtain ⟨i, hi, rfl⟩ := mem_getD (0, []) hx
  have h1 := harc (i : Int) (by omega) (by omega)
  rw [arcsAt, Int.toNat_natCast] at h1
  rw [h1]
  have hm := hmem (i : Int) (by omega) (by omega)
  rw [Int.toNat_natCast] at hm
  have hr := ho.ok.rng _ hm.1
  refine ⟨?_, fun a ha => ?_⟩
  ·rw [List.length_map]
   exact (hQ.2 _ (mem_of_take_succ Q (0, []) (k := (o.getD i 0).toNat) (by omega))).1
  ·obtain ⟨b, hb, rfl⟩ := List.mem_map.1 ha
   have := get_idxZ (ho.cl _ hm.1 b hb)
   rw [hUl]
   exact ⟨this.1, this.2.1⟩
 have hd := dfs_iso hiso Q.length [] 0 (fun x hx => by cases hx) ⟨by omega, h0⟩
 have hz : o.getD (0 : Int).toNat 0 = r := ho.zero.1
 rw [List.map_nil, hz, hod] at hd
 have hfu := dfs_fuel hUgood (n := 0) (by omega) (by omega) (Q.length - U.length)
 rw [show U.length + (Q.length - U.length) = Q.length by omega] at hfu
 rw [hfu] at hd
 unfold canonicalF
 generalize dfs U U.length [] 0 = l at *
 obtain ⟨hd1, hd2⟩ := hd
 have hll : l.length = o.length := by
  have := congrArg List.length hd1
  rw [List.length_map] at this
  exact this.symm
 have hlk : ∀ k, (hk : k < l.length) → l[k] = (k : Int) := fun k hk => by
  have hc := hd2 l[k] (List.getElem_mem hk)
  have h1 := (hmem l[k] hc.1 hc.2).2
  have h2 := (hmem (k : Int) (by omega) (by omega)).2
  have e : o.getD k 0 = o.getD (l[k]).toNat 0 := by
   exact (congrArg (fun z : List Int => z.getD k 0) hd1).trans (by simp [List.getD_eq_getElem?_getD, hk])
  rw [Int.toNat_natCast, e] at h2
  rw [← h1, h2]
 have hnd : l.Nodup := by
  unfold List.Nodup
  rw [List.pairwise_iff_getElem]
  intro i j hi hj hij e
  rw [hlk i hi, hlk j hj] at e
  omega
 have hidx : ∀ x, 0 ≤ x → x < (l.length : Int) → idxZ l x = x := fun x x0 x1 => by
  have := idxZ_get hnd (i := x.toNat) (by omega)
  have e : l.getD x.toNat 0 = x := by
   rw [List.getD_eq_getElem?_getD, List.getElem?_eq_getElem (by omega)]
   show l[x.toNat] = x
   rw [hlk _ (by omega)]
   omega
  rw [e] at this
  rw [this]
  omega
 apply List.ext_getElem
 ·rw [List.length_map]; omega
 ·intro i h1 h2
  rw [List.getElem_map, hlk i (by simpa using h1)]
  have hU2 : U.getD (i : Int).toNat (0, []) = U[i] := by simp [List.getD_eq_getElem?_getD, h2]
  unfold nodeD
  rw [hU2]
  have : ∀ a ∈ U[i].2, renD l a = a := fun a ha => by
   have hg := (hUgood.2 _ (List.getElem_mem h2)).2 a ha
   unfold renD
   rw [hidx a.2 hg.1 (by omega)]
  rw [List.map_congr_left this, List.map_id']
theorem hom_uniq {h : HierD} {a X : List GNode} (hro : RO a) {m m' : Int → Int} (h1 : Hom h a X m) (h2 : Hom h a X m') : ∀ (k : Nat) (i : Int), i.toNat ≤ k → 0 ≤ i → i < (a.length : Int) → m i = m' i := by
 intro k
 induction k with
 | zero =>
  intro i hk i0 i1
  have : i = 0 := by omega
  subst this
  rw [h1.zero, h2.zero]
 | succ k ih =>
  intro i hk i0 i1
  by_cases hi : i = 0
  ·subst hi; rw [h1.zero, h2.zero]
  ·obtain ⟨j, j0, j1, x, hx, rfl⟩ := hro i (by omega) i1
   rw [← h1.arc j j0 (by omega) x hx, ← h2.arc j j0 (by omega) x hx, ih j (by omega) j0 (by omega)]
theorem hom_comp {h : HierD} (hk : HOk h) {a b c : List GNode} (ga : GoodF a) (ta : TyOk h a) (tb : TyOk h b) (tc : TyOk h c) {m m' : Int → Int} (h1 : Hom h a b m) (h2 : Hom h b c m') : Hom h a c fun i => m' (m i) := by
 refine ⟨by show m' (m 0) = 0; rw [h1.zero, h2.zero], fun i i0 i1 => ?_, fun i i0 i1 => ?_, fun i i0 i1 x hx => ?_⟩
 ·have := h1.rng i i0 i1
  exact h2.rng _ this.1 this.2
 ·have hr := h1.rng i i0 i1
  have hr2 := h2.rng _ hr.1 hr.2
  have xa := ta _ (mem_of_take_succ a (0, []) (k := i.toNat) (by omega))
  have xb := tb _ (mem_of_take_succ b (0, []) (k := (m i).toNat) (by omega))
  have xc := tc _ (mem_of_take_succ c (0, []) (k := (m' (m i)).toNat) (by omega))
  exact hsub_trans hk xa.1 xa.2 xb.1 xb.2 xc.1 xc.2 (h1.ty i i0 i1) (h2.ty _ hr.1 hr.2)
 ·have hr := h1.rng i i0 i1
  have hxr := arcs_in' ga hx
  have hm := h1.arc i i0 i1 x hx
  obtain ⟨y, hy, e1, e2⟩ := tgtF_mem (l := arcsAt b (m i)) (e := x.1) (by rw [hm]; exact (h1.rng _ hxr.1 hxr.2).1)
  have := h2.arc (m i) hr.1 hr.2 y hy
  rw [e1, e2, hm] at this
  exact this
theorem str_at {a : List GNode} (hs : ∀ x ∈ a, Str x.2) (n : Int) : Str (arcsAt a n) := by
 unfold arcsAt
 by_cases h : n.toNat < a.length
 ·exact hs _ (mem_of_take_succ a (0, []) h)
 ·rw [List.getD_eq_getElem?_getD, List.getElem?_eq_none (by omega)]
  exact .nil
theorem hom_id {h : HierD} {a : List GNode} (hs : ∀ x ∈ a, Str x.2) : Hom h a a id :=
 ⟨rfl, fun i i0 i1 => ⟨i0, i1⟩, fun i _ _ => hsub_refl h _, fun i _ _ x hx => tgtF_arc (str_at hs i) hx⟩
theorem str_ext : ∀ {l m : List (Int × Int)}, Str l → Str m → (∀ x, x ∈ l ↔ x ∈ m) → l = m
 | [], [], _, _, _ => rfl
 | [], b :: m, _, _, h => by have := (h b).2 (by simp); cases this
 | a :: l, [], _, _, h => by have := (h a).1 (by simp); cases this
 | a :: l, b :: m, h1, h2, h => by
  obtain ⟨a1, a2⟩ := List.pairwise_cons.1 h1
  obtain ⟨b1, b2⟩ := List.pairwise_cons.1 h2
  have e : a = b := by
   rcases List.mem_cons.1 ((h a).1 (by simp)) with e | e
   ·exact e
   ·rcases List.mem_cons.1 ((h b).2 (by simp)) with e2 | e2
    ·exact e2.symm
    ·have := a1 b e2
     have := b1 a e
     omega
  subst e
  refine congrArg _ (str_ext a2 b2 fun x => ⟨fun hx => ?_, fun hx => ?_⟩)
  ·rcases List.mem_cons.1 ((h x).1 (by simp [hx])) with e | e
   ·subst e
    have := a1 x hx
    omega
   ·exact e
  ·rcases List.mem_cons.1 ((h x).2 (by simp [hx])) with e | e
   ·subst e
    have := b1 x hx
    omega
   ·exact e
theorem vf_eq {h : HierD} (hu : HU h) {U V : List GNode} (hU : VF h U) (hV : VF h V) {m m' : Int → Int} (h1 : Hom h U V m) (h2 : Hom h V U m') : U = V := by
 have key : ∀ {U V : List GNode}, VF h U → VF h V → ∀ {m m' : Int → Int}, Hom h U V m → Hom h V U m' → U.length ≤ V.length → U = V := by
  clear hU hV h1 h2
  intro U V hU hV m m' h1 h2 hlen
  have c1 := hom_comp hu.ok hU.good hU.ty hV.ty hU.ty h1 h2
  have c2 := hom_comp hu.ok hV.good hV.ty hU.ty hV.ty h2 h1
  have e1 : ∀ i, 0 ≤ i → i < (U.length : Int) → m' (m i) = i := fun i i0 i1 => hom_uniq hU.ro c1 (hom_id hU.str) i.toNat i (Nat.le_refl _) i0 i1
  have e2 : ∀ i, 0 ≤ i → i < (V.length : Int) → m (m' i) = i := fun i i0 i1 => hom_uniq hV.ro c2 (hom_id hV.str) i.toNat i (Nat.le_refl _) i0 i1
  have hfw : ∀ {A B : List GNode} {f : Int → Int}, GoodF A → Hom h A B f → ∀ i, 0 ≤ i → i < (A.length : Int) → ∀ x ∈ arcsAt A i, (x.1, f x.2) ∈ arcsAt B (f i) := fun {A B f} gA hf i i0 i1 x hx => by
   have hxr := arcs_in' gA hx
   have hm := hf.arc i i0 i1 x hx
   obtain ⟨y, hy, g1, g2⟩ := tgtF_mem (l := arcsAt B (f i)) (e := x.1) (by rw [hm]; exact (hf.rng _ hxr.1 hxr.2).1)
   rw [← g1, ← hm, ← g2]
   exact hy
  have hiso : Iso U V m (fun i => 0 ≤ i ∧ i < (U.length : Int)) := by
   refine ⟨fun i hi => ?_, fun i hi a ha => arcs_in' hU.good ha, fun i j hi hj e => ?_⟩
   ·have hr := h1.rng i hi.1 hi.2
    refine str_ext (str_at hV.str _) ?_ fun x => ⟨fun hx => ?_, fun hx => ?_⟩
    ·unfold Str
     rw [List.pairwise_map]
     exact str_at hU.str i
    ·have g := hfw hV.good h2 (m i) hr.1 hr.2 x hx
     rw [e1 i hi.1 hi.2] at g
     refine List.mem_map.2 ⟨_, g, ?_⟩
     have hxr := arcs_in' hV.good hx
     show (x.1, m (m' x.2)) = x
     rw [e2 x.2 hxr.1 hxr.2]
    ·obtain ⟨y, hy, rfl⟩ := List.mem_map.1 hx
     exact hfw hU.good h1 i hi.1 hi.2 y hy
   ·rw [← e1 i hi.1 hi.2, ← e1 j hj.1 hj.2, e]
  have hpos := hU.pos
  have := canonical_iso hiso hU.good ⟨by omega, by omega⟩ h1.zero hU.pos hlen fun i hi => by
   have hr := h1.rng i hi.1 hi.2
   have g1 := h1.ty i hi.1 hi.2
   have g2 := h2.ty (m i) hr.1 hr.2
   rw [e1 i hi.1 hi.2] at g2
   have xa := hU.ty _ (mem_of_take_succ U (0, []) (k := i.toNat) (by omega))
   have xb := hV.ty _ (mem_of_take_succ V (0, []) (k := (m i).toNat) (by omega))
   exact hu.inj _ _ xb.1 xb.2 xa.1 xa.2 g2 g1
  rw [hV.can, hU.can] at this
  exact this.symm
 rcases Nat.le_total U.length V.length with hl | hl
 ·exact key hU hV h1 h2 hl
 ·exact (key hV hU h2 h1 hl).symm
structure Unif (h : HierD) (a b U : List GNode) : Prop where
 vf : VF h U
 left : ∃ m, Hom h a U m
 right : ∃ m, Hom h b U m
 least : ∀ X, TyOk h X → ∀ m1, Hom h a X m1 → ∀ m2, Hom h b X m2 → ∃ m, Hom h U X m
 len : U.length ≤ a.length + b.length
theorem unif_eq {h : HierD} (hu : HU h) {a b U V : List GNode} (h1 : Unif h a b U) (h2 : Unif h a b V) : U = V := by
 obtain ⟨m1, g1⟩ := h2.left
 obtain ⟨m2, g2⟩ := h2.right
 obtain ⟨m3, g3⟩ := h1.left
 obtain ⟨m4, g4⟩ := h1.right
 obtain ⟨m, hm⟩ := h1.least V h2.vf.ty m1 g1 m2 g2
 obtain ⟨m', hm'⟩ := h2.least U h1.vf.ty m3 g3 m4 g4
 exact vf_eq hu h1.vf h2.vf hm hm'
open Classical in
noncomputable def unifyF (h : HierD) (a b : List GNode) : List GNode × Bool := if H : ∃ U, Unif h a b U then (H.choose, true) else ([], false)
theorem unifyF_some {h : HierD} (hu : HU h) {a b U : List GNode} (h1 : Unif h a b U) : unifyF h a b = (U, true) := by
 unfold unifyF
 have H : ∃ U, Unif h a b U := ⟨U, h1⟩
 rw [dif_pos H, unif_eq hu H.choose_spec h1]
theorem unifyF_none {h : HierD} {a b : List GNode} (h1 : ∀ X, TyOk h X → ∀ m1, Hom h a X m1 → ∀ m2, ¬ Hom h b X m2) : unifyF h a b = ([], false) := by
 unfold unifyF
 rw [dif_neg]
 rintro ⟨U, hU⟩
 obtain ⟨m1, g1⟩ := hU.left
 obtain ⟨m2, g2⟩ := hU.right
 exact h1 U hU.vf.ty m1 g1 m2 g2
theorem unifyF_true {h : HierD} {a b : List GNode} (h1 : (unifyF h a b).2 = true) : Unif h a b (unifyF h a b).1 := by
 unfold unifyF at h1 ⊢
 split at h1
 ·rename_i H
  rw [dif_pos H]
  exact H.choose_spec
 ·cases h1
theorem featsN_mem {f : List GNode} {e : Int} (h : e ∈ featsN f) : ∃ x ∈ f, ∃ a ∈ x.2, a.1 = e := by
 unfold featsN at h
 obtain ⟨x, hx, h2⟩ := List.mem_flatMap.1 h
 obtain ⟨a, ha, e⟩ := List.mem_map.1 h2
 exact ⟨x, hx, a, ha, e⟩
theorem gen_vf {h : HierD} {N : List GNode} {P : List (Int × Int)} {p ty : List Int} {ar : List (List (Int × Int))} (hj : JI h N P p ty ar []) (hQ : GoodF (quo p ty ar)) (hN : 0 < N.length) (hft : ∀ x ∈ N, ∀ a ∈ x.2, 0 ≤ a.1 ∧ a.1 < (h.2.length : Int)) {v : Int → Int} (hU : GenOk h N P (canonicalF (quo p ty ar) (rtF p 0)) v) : VF h (canonicalF (quo p ty ar) (rtF p 0)) := by
 have hr : 0 ≤ rtF p 0 ∧ rtF p 0 < ((quo p ty ar).length : Int) := by
  obtain ⟨rk, fo⟩ := hj.fo
  have := hj.lp
  have := rt_rng fo (x := 0) (by omega) (by omega) (rtF_rt fo (by omega) (by omega))
  rw [quo_len]
  exact this
 refine ⟨hU.good, hU.pos, hU.ty, hU.str, fun x hx a ha => ?_, can_idem hQ hr.1 hr.2, hU.ro⟩
 obtain ⟨y, hy, b, hb, e⟩ := featsN_mem (hU.feat x hx a ha)
 rw [← e]
 exact hft y hy b hb
theorem joinN_ftH {h : HierD} {f g : List GNode} (hf : VF h f) (hg : VF h g) : ∀ x ∈ joinN f g, ∀ a ∈ x.2, 0 ≤ a.1 ∧ a.1 < (h.2.length : Int) := by
 intro x hx
 unfold joinN at hx
 rcases List.mem_append.1 hx with hx | hx
 ·exact hf.ft x hx
 ·obtain ⟨y, hy, rfl⟩ := List.mem_map.1 hx
  intro a ha
  obtain ⟨b, hb, rfl⟩ := List.mem_map.1 ha
  exact hg.ft y hy b hb
theorem unif_of {h : HierD} {f g : List GNode} (hf : VF h f) (hg : VF h g) {p ty : List Int} {ar : List (List (Int × Int))} (hj : JI h (joinN f g) [(0, (f.length : Int))] p ty ar []) (hQ : GoodF (quo p ty ar)) : Unif h f g (canonicalF (quo p ty ar) (rtF p 0)) := by
 have hpf := hf.pos
 have hl := joinN_len f g
 have hN : 0 < (joinN f g).length := by omega
 have h0 := reach_zero hj hQ hN
 have hlr := reach_comp hj hQ hN (comp_left (g := g) comp_self) hf.ro h0
 have hrr := reach_comp hj hQ hN (comp_right (f := f)) hg.ro (reach_eq hj (by simp) h0)
 have hU := gen_ok hj hQ hN fun x x0 x1 => by
  by_cases hx : x < (f.length : Int)
  ·have := hlr x.toNat x (Nat.le_refl _) x0 hx
   rwa [show ((0 : Nat) : Int) + x = x by omega] at this
  ·have := hrr _ (x - (f.length : Int)) (Nat.le_refl _) (by omega) (by omega)
   rwa [show (f.length : Int) + (x - (f.length : Int)) = x by omega] at this
 refine ⟨gen_vf hj hQ hN (joinN_ftH hf hg) hU, ⟨_, comp_hom hU.proj (comp_left (g := g) comp_self) hU.zero⟩, ⟨_, comp_hom hU.proj (comp_right (f := f)) (by rw [← hU.proj.eq (0, (f.length : Int)) (by simp)]; exact hU.zero)⟩, fun X hX m1 h1 m2 h2 => ?_, by have := hU.len; omega⟩
 refine hU.least X _ hX (xok_eq (xok_join hf.good hg.good (hom_xok h1) (hom_xok h2)) fun q hq => ?_) ?_
 ·have e : q = (0, (f.length : Int)) := by simpa using hq
  subst e
  try simp only
  rw [if_pos (by omega), if_neg (by omega), Int.sub_self, h1.zero, h2.zero]
 ·show (if (0 : Int) < (f.length : Int) then m1 0 else m2 (0 - (f.length : Int))) = 0
  rw [if_pos (by omega)]
  exact h1.zero
theorem unif_none {h : HierD} {f g : List GNode} (hf : VF h f) (hg : VF h g) (hno : ∀ X v, TyOk h X → ¬ XOk h (joinN f g) [(0, (f.length : Int))] X v) : unifyF h f g = ([], false) := by
 have hpf := hf.pos
 refine unifyF_none fun X hX m1 h1 m2 h2 => hno X _ hX (xok_eq (xok_join hf.good hg.good (hom_xok h1) (hom_xok h2)) fun q hq => ?_)
 have e : q = (0, (f.length : Int)) := by simpa using hq
 subst e
 try simp only
 rw [if_pos (by omega), if_neg (by omega), Int.sub_self, h1.zero, h2.zero]
end
/- Plain: the classes before they are joined. -/
section
theorem shiftA_zero (l : List (Int × Int)) : shiftA 0 l = l := by
 unfold shiftA
 rw [List.map_congr_left (g := id) (fun a _ => by show (a.1, a.2 + ((0 : Nat) : Int)) = a; rw [Int.natCast_zero, Int.add_zero]), List.map_id]
theorem numsG_app (a b : Nat) : numsG 0 a ++ numsG a b = numsG 0 (a + b) := by
 unfold numsG
 rw [List.range_add, List.map_append, List.map_map]
 congr 1
 ·refine List.map_congr_left fun i _ => ?_
  show ((a + i : Nat) : Int) = ((0 + (a + i) : Nat) : Int)
  rw [Nat.zero_add]
theorem numsG_get {n k : Nat} (h : k < n) : (numsG 0 n).getD k 0 = (k : Int) := by
 unfold numsG
 rw [List.getD_eq_getElem?_getD, List.getElem?_map, List.getElem?_range h]
 show ((0 + k : Nat) : Int) = k
 rw [Nat.zero_add]
theorem nums_par {n : Nat} {x : Int} (x0 : 0 ≤ x) (x1 : x < (n : Int)) : par (numsG 0 n) x = x := by
 unfold par
 rw [numsG_get (by omega)]
 omega
def typesN (N : List GNode) : List Int := N.map (·.1)
def arcsN (N : List GNode) : List (List (Int × Int)) := N.map (·.2)
theorem typesN_get (N : List GNode) (k : Nat) : (typesN N).getD k 0 = (N.getD k (0, [])).1 := by
 unfold typesN
 rw [List.getD_eq_getElem?_getD, List.getElem?_map, List.getD_eq_getElem?_getD]
 cases N[k]? <;> rfl
theorem arcsN_get (N : List GNode) (k : Nat) : (arcsN N).getD k [] = (N.getD k (0, [])).2 := by
 unfold arcsN
 rw [List.getD_eq_getElem?_getD, List.getElem?_map, List.getD_eq_getElem?_getD]
 cases N[k]? <;> rfl
theorem types_join (f g : List GNode) : typesG f f.length ++ typesG g g.length = typesN (joinN f g) := by
 unfold typesG typesN joinN
 rw [List.take_length, List.take_length, List.map_append, List.map_map]
 rfl
theorem arcs_join (f g : List GNode) : arcsU 0 f f.length ++ arcsU f.length g g.length = arcsN (joinN f g) := by
 unfold arcsU arcsN joinN
 rw [List.take_length, List.take_length, List.map_append, List.map_map]
 congr 1
 exact List.map_congr_left fun x _ => shiftA_zero x.2
theorem nums_rt {n : Nat} {x r : Int} (x0 : 0 ≤ x) (x1 : x < (n : Int)) (h : Rt (numsG 0 n) x r) : r = x := h.det (.base (nums_par x0 x1))
theorem ji_init {h : HierD} {N : List GNode} (hg : GoodF N) (ht : TyOk h N) (hs : ∀ x ∈ N, Str x.2) : JI h N [] (numsG 0 N.length) (typesN N) (arcsN N) [] := by
 have hl : (numsG 0 N.length).length = N.length := numsG_len 0 N.length
 refine ⟨ht, ⟨fun _ => 0, fun n n0 n1 => ?_, fun n n0 n1 hn => ?_⟩, hl, by simp [typesN], by simp [arcsN], fun w hw => (by cases hw), fun x x0 x1 => ?_, fun k a ha => ?_, fun k => ?_, fun q hq => (by cases hq), fun x r x0 x1 hr => ?_, fun x r x0 x1 hr a ha => ?_, fun X v hX hv => ?_⟩
 ·rw [hl] at n1 ⊢
  rw [nums_par n0 n1]
  exact ⟨n0, n1⟩
 ·rw [hl] at n1
  exact absurd (nums_par n0 n1) hn
 ·rw [typesN_get]
  exact ht _ (mem_of_take_succ N (0, []) (by omega))
 ·rw [arcsN_get] at ha
  refine ⟨node_rng hg k a ha, ?_⟩
  by_cases hk : k < N.length
  ·exact List.mem_flatMap.2 ⟨_, mem_of_take_succ N (0, []) hk, List.mem_map.2 ⟨a, ha, rfl⟩⟩
  ·rw [List.getD_eq_getElem?_getD, List.getElem?_eq_none (by omega)] at ha
   cases ha
 ·rw [arcsN_get]
  have := str_at hs (k : Int)
  rwa [arcsAt, Int.toNat_natCast] at this
 ·rw [nums_rt x0 x1 hr, typesN_get]
  exact hsub_refl h _
 ·rw [nums_rt x0 x1 hr, arcsN_get]
  have hr2 := arcs_in' hg ha
  exact ⟨a.2, ha, .cls hr2.1 hr2.2 hr2.1 hr2.2 (.base (nums_par hr2.1 hr2.2)) (.base (nums_par hr2.1 hr2.2))⟩
 ·refine ⟨fun x r x0 x1 hr => by rw [nums_rt x0 x1 hr], fun w hw => (by cases hw), fun r r0 r1 _ => ?_, fun r r0 r1 _ a ha => ?_⟩
  ·rw [typesN_get]
   exact hv.ty r r0 r1
  ·rw [arcsN_get] at ha
   exact hv.arc r r0 r1 a ha
theorem joinN_good {f g : List GNode} (hf : GoodF f) (hg : GoodF g) (hl : f.length + g.length ≤ 100000) : GoodF (joinN f g) := by
 have hj := joinN_len f g
 refine ⟨by omega, fun x hx => ?_⟩
 unfold joinN at hx
 rcases List.mem_append.1 hx with hx | hx
 ·refine ⟨(hf.2 x hx).1, fun a ha => ?_⟩
  have := (hf.2 x hx).2 a ha
  omega
 ·obtain ⟨y, hy, rfl⟩ := List.mem_map.1 hx
  refine ⟨by simp only [shiftA, List.length_map]; exact (hg.2 y hy).1, fun a ha => ?_⟩
  obtain ⟨b, hb, rfl⟩ := List.mem_map.1 ha
  have := (hg.2 y hy).2 b hb
  simp only
  omega
theorem joinN_str {f g : List GNode} (hf : ∀ x ∈ f, Str x.2) (hg : ∀ x ∈ g, Str x.2) : ∀ x ∈ joinN f g, Str x.2 := by
 intro x hx
 unfold joinN at hx
 rcases List.mem_append.1 hx with hx | hx
 ·exact hf x hx
 ·obtain ⟨y, hy, rfl⟩ := List.mem_map.1 hx
  unfold Str shiftA
  rw [List.pairwise_map]
  exact hg y hy
theorem joinN_ty {h : HierD} {f g : List GNode} (hf : TyOk h f) (hg : TyOk h g) : TyOk h (joinN f g) := by
 intro x hx
 unfold joinN at hx
 rcases List.mem_append.1 hx with hx | hx
 ·exact hf x hx
 ·obtain ⟨y, hy, rfl⟩ := List.mem_map.1 hx
  exact hg y hy
def Ft64 (N : List GNode) : Prop := ∀ x ∈ N, ∀ a ∈ x.2, 0 ≤ a.1 ∧ a.1 < 64
theorem joinN_ft {f g : List GNode} (hf : Ft64 f) (hg : Ft64 g) : Ft64 (joinN f g) := by
 intro x hx
 unfold joinN at hx
 rcases List.mem_append.1 hx with hx | hx
 ·exact hf x hx
 ·obtain ⟨y, hy, rfl⟩ := List.mem_map.1 hx
  intro a ha
  obtain ⟨b, hb, rfl⟩ := List.mem_map.1 ha
  exact hg y hy b hb
theorem str_64 {l : List (Int × Int)} (h : Str l) (hf : ∀ a ∈ l, 0 ≤ a.1 ∧ a.1 < 64) : l.length ≤ 64 := by
 have := str_len h (S := (List.range 64).map fun (i : Nat) => (i : Int)) (fun a ha => List.mem_map.2 ⟨a.1.toNat, List.mem_range.2 (by have := hf a ha; omega), by have := hf a ha; omega⟩)
 rwa [List.length_map, List.length_range] at this
theorem featsN_len {N : List GNode} (h : ∀ x ∈ N, x.2.length ≤ 64) : (featsN N).length ≤ 64 * N.length := by
 induction N with
 | nil => simp [featsN]
 | cons x N ih =>
  have h1 := h x (by simp)
  have h2 := ih fun y hy => h y (by simp [hy])
  have e : featsN (x :: N) = x.2.map (·.1) ++ featsN N := rfl
  rw [e, List.length_append, List.length_map, List.length_cons]
  omega
theorem featsN_64 {N : List GNode} (h : Ft64 N) {e : Int} (he : e ∈ featsN N) : 0 ≤ e ∧ e < 64 := by
 obtain ⟨x, hx, a, ha, rfl⟩ := featsN_mem he
 exact h x hx a ha
theorem quo_good {h : HierD} {N : List GNode} {P : List (Int × Int)} {p ty : List Int} {ar : List (List (Int × Int))} (hj : JI h N P p ty ar []) (hN : N.length ≤ 100000) (hf : Ft64 N) : GoodF (quo p ty ar) := by
 have hl := quo_len p ty ar
 obtain ⟨rk, fo⟩ := hj.fo
 have lp := hj.lp
 refine ⟨by omega, fun x hx => ?_⟩
 obtain ⟨i, hi, rfl⟩ := mem_getD (0, []) hx
 have e := quo_get (p := p) (ty := ty) (ar := ar) (n := (i : Int)) (by omega) (by omega)
 rw [Int.toNat_natCast] at e
 rw [e]
 refine ⟨?_, fun a ha => ?_⟩
 ·simp only [List.length_map]
  have := str_64 (hj.srt i) (fun a ha => featsN_64 hf (hj.arr i a ha).2)
  omega
 ·obtain ⟨b, hb, rfl⟩ := List.mem_map.1 ha
  have hr := (hj.arr i b hb).1
  have := rt_rng fo (x := b.2) hr.1 (by omega) (rtF_rt fo hr.1 (by omega))
  rw [hl]
  exact this
theorem VF.ft64 {h : HierD} {f : List GNode} (hv : VF h f) (hu : HU h) : Ft64 f := fun x hx a ha => by
 have h1 := hv.ft x hx a ha
 have h2 := hu.ft
 omega
end
/- Plain: type 0 subsumes each type. -/
section
/-! All declared types are below the root -/
def BelC (d : List DeclD) (o : List ByteArray) (i : Nat) : Prop := ∀ j, j < i → ∀ x ∈ d, amongF x.2.1 (o.getD j ByteArray.empty) = true → amongF o x.1 = true
theorem addB_has {c : ByteArray} {o : List ByteArray} {x : DeclD} (h : amongF x.2.1 c = true) : amongF (addB c o x) x.1 = true := by
 unfold addB
 split
 ·rw [amongF_app, strEq_refl, Bool.or_true]
 ·rename_i hc
  rw [h, Bool.true_and, Bool.not_eq_true'] at hc
  simpa using hc
theorem addBs_has {c : ByteArray} {x : DeclD} (h : amongF x.2.1 c = true) : ∀ {l : List DeclD} {o : List ByteArray}, x ∈ l → amongF (l.foldl (addB c) o) x.1 = true
 | [], _, hx => by cases hx
 | y :: l, o, hx => by
  rw [List.foldl_cons]
  rcases List.mem_cons.1 hx with rfl | hx
  ·exact among_sub (fun z hz => addBs_sub hz) (addB_has h)
  ·exact addBs_has h hx
theorem belowG_C {d : List DeclD} : ∀ {n i : Nat} {o : List ByteArray}, AOk d o → d.length ≤ n + i → BelC d o i → i ≤ o.length → ∃ m, BelC d (belowG d n i o) m ∧ (belowG d n i o).length ≤ m
 | 0, i, o, ha, hd, hb, hi => ⟨i, hb, by
  have := ha.len
  show o.length ≤ i
  omega⟩
 | n + 1, i, o, ha, hd, hb, hi => by
  unfold belowG
  split
  ·rename_i hlt
   obtain ⟨g1, g2⟩ := addBs_ok (o.getD i ByteArray.empty) (l := d) (o := o) (fun _ h => h) ha
   refine belowG_C g1 (by omega) (fun j hj x hx hs => ?_) (by omega)
   rw [addBs_get _ (by omega)] at hs
   by_cases e : j = i
   ·subst e
    exact addBs_has hs hx
   ·exact among_sub (fun z hz => addBs_sub hz) (hb j (by omega) x hx hs)
  ·exact ⟨i, hb, by omega⟩
theorem count_one {α : Type} {p : α → Bool} : ∀ {l : List α}, l.countP p = 1 → ∀ x ∈ l, p x = true → ∀ y ∈ l, p y = true → x = y
 | [], h, x, hx, _, _, _, _ => by cases hx
 | z :: l, h, x, hx, px, y, hy, py => by
  rw [List.countP_cons] at h
  by_cases pz : p z = true
  ·rw [if_pos pz] at h
   have h0 : l.countP p = 0 := by omega
   rw [List.countP_eq_zero] at h0
   have e1 : x = z := by
    rcases List.mem_cons.1 hx with e | hx
    ·exact e
    ·exact absurd px (h0 x hx)
   have e2 : y = z := by
    rcases List.mem_cons.1 hy with e | hy
    ·exact e
    ·exact absurd py (h0 y hy)
   rw [e1, e2]
  ·rw [if_neg pz] at h
   have hx : x ∈ l := by
    rcases List.mem_cons.1 hx with e | hx
    ·rw [e] at px; exact absurd px pz
    ·exact hx
   have hy : y ∈ l := by
    rcases List.mem_cons.1 hy with e | hy
    ·rw [e] at py; exact absurd py pz
    ·exact hy
   exact count_one (by omega) x hx px y hy py
theorem dfindG_has (s : ByteArray) : ∀ (l : List DeclD) (k : Nat), 0 ≤ dfindG s k l → ∃ x ∈ l, strEq x.1 s = true
 | [], k, h => by
  simp only [dfindG] at h
  omega
 | y :: l, k, h => by
  simp only [dfindG] at h
  split at h
  ·rename_i e
   exact ⟨y, by simp, e⟩
  ·obtain ⟨x, hx, e⟩ := dfindG_has s l (k + 1) h
   exact ⟨x, by simp [hx], e⟩
theorem below_root {d : List DeclD} (h3 : check3F d = 0) : ∃ r ∈ d, ∀ x ∈ d, amongF (belowF d r.1) x.1 = true := by
 obtain ⟨hs, h2, h1, hn, hl⟩ := check3_zero h3
 have hpos : 0 < d.countP fun x => x.2.1.length == 0 := by
  have : rootsN d = d.countP fun x => x.2.1.length == 0 := rfl
  omega
 obtain ⟨r, hr, pr⟩ := List.countP_pos_iff.1 hpos
 refine ⟨r, hr, ?_⟩
 have hrd := dfind_self hr
 have hA : AOk d [r.1] := ⟨fun s hs => by
  have : s = r.1 := by simpa using hs
  rw [this]
  exact hrd, by simp⟩
 obtain ⟨m, hm1, hm2⟩ := belowG_C (d := d) (n := d.length) (i := 0) hA (by omega) (fun j hj => by omega) (by omega)
 have hsub : r.1 ∈ belowG d d.length 0 [r.1] := belowG_sub (by simp)
 have hb : belowF d r.1 = sortL (belowG d d.length 0 [r.1]) := by unfold belowF; rw [if_neg (by omega)]
 rw [hb]
 generalize belowG d d.length 0 [r.1] = o at *
 have key : ∀ (k : Nat) (x : DeclD), x ∈ d → rankF d x.1 ≤ k → amongF o x.1 = true := by
  intro k
  induction k with
  | zero =>
   intro x hx hk
   by_cases hc : x.2.1.length = 0
   ·have e := count_one h1 x hx (by simpa using hc) r hr pr
    rw [e]
    exact among_mem hsub
   ·obtain ⟨s, hs2⟩ : ∃ s, s ∈ x.2.1 := List.exists_mem_of_length_pos (by omega)
    have := rank_super hn hl hx (among_mem hs2)
    omega
  | succ k ih =>
   intro x hx hk
   by_cases hc : x.2.1.length = 0
   ·have e := count_one h1 x hx (by simpa using hc) r hr pr
    rw [e]
    exact among_mem hsub
   ·obtain ⟨s, hs2⟩ : ∃ s, s ∈ x.2.1 := List.exists_mem_of_length_pos (by omega)
    have hrk := rank_super hn hl hx (among_mem hs2)
    obtain ⟨y, hy, e⟩ := dfindG_has s d 0 (hs x hx s hs2)
    rw [← rank_congr d e] at hrk
    obtain ⟨z, hz, e2⟩ := List.any_eq_true.1 (ih y hy (by omega))
    obtain ⟨j, hj, rfl⟩ := mem_getD ByteArray.empty hz
    refine hm1 j (by omega) x hx ?_
    exact List.any_eq_true.2 ⟨s, hs2, strEq_symm (strEq_trans e2 e)⟩
 intro x hx
 obtain ⟨z, hz, e⟩ := List.any_eq_true.1 (key _ x hx (Nat.le_refl _))
 obtain ⟨w, hw, e2⟩ := List.any_eq_true.1 (puts_new (o := []) hz)
 exact List.any_eq_true.2 ⟨w, hw, strEq_trans e2 e⟩
/-! The greatest code comes first -/
abbrev cnt (c : List Int) : Nat := (listF c).length
theorem bitF_bit {w : Int} (hw : U64 w) {r : Nat} (hr : r < 64) : bitF w (r : Int) = w.toNat.testBit r := by
 have h0 := hw.1
 have h1 := hw.2
 have hle : w.toNat / 2 ^ r ≤ w.toNat := Nat.div_le_self _ _
 have e : shrV .u64 w (r : Int) = ((w.toNat / 2 ^ r : Nat) : Int) := by
  unfold shrV
  have hm : min ((r : Int)).toNat IntKind.u64.bits = r := by
   show min ((r : Int)).toNat 64 = r
   omega
  have hp : (0 : Int) ≤ 2 ^ r := Int.le_of_lt (Int.pow_pos (by decide))
  rw [hm, Int.fdiv_eq_ediv_of_nonneg _ hp, Int.natCast_ediv, Int.toNat_of_nonneg h0]
  simp
 unfold bitF
 rw [Nat.testBit_eq_decide_div_mod_eq, e]
 generalize w.toNat / 2 ^ r = z at *
 rw [and_bits ⟨by omega, by omega⟩ ⟨by decide, by decide⟩, Int.toNat_natCast, show (1 : Int).toNat = 1 from rfl, Nat.and_one_is_mod, Bool.eq_iff_iff, beq_iff_eq, decide_eq_true_eq]
 omega
theorem has_bit {b : List Int} (hw : Wds b) (i : Nat) : hasF b (i : Int) = bitN b i := by
 have e1 : Int.tdiv (i : Int) 64 = ((i / 64 : Nat) : Int) := by rw [Int.tdiv_eq_ediv_of_nonneg (by omega)]; omega
 have e2 : Int.tmod (i : Int) 64 = ((i % 64 : Nat) : Int) := by rw [Int.tmod_eq_emod_of_nonneg (by omega)]; omega
 unfold hasF bitN
 rw [e1, e2, Int.toNat_natCast]
 by_cases hk : i / 64 < b.length
 ·rw [if_neg (by rw [Bool.or_eq_true, decide_eq_true_eq, decide_eq_true_eq]; omega), bitF_bit (getD_U64 hw _) (by omega)]
 ·rw [if_pos (by rw [Bool.or_eq_true, decide_eq_true_eq, decide_eq_true_eq]; omega), getD_out hk]
  simp
theorem listF_nodup (c : List Int) : (listF c).Nodup := by
 unfold listF listG List.Nodup
 rw [List.pairwise_map]
 refine List.Pairwise.imp (fun h e => h ?_) (List.Pairwise.filter _ List.nodup_range)
 exact Int.ofNat.inj e
theorem listF_mem {c : List Int} (hw : Wds c) {x : Int} : x ∈ listF c ↔ ∃ i : Nat, x = (i : Int) ∧ bitN c i = true := by
 unfold listF listG
 rw [List.mem_map]
 constructor
 ·rintro ⟨i, hi, rfl⟩
  rw [List.mem_filter] at hi
  exact ⟨i, rfl, by rw [← has_bit hw]; exact hi.2⟩
 ·rintro ⟨i, rfl, hb⟩
  refine ⟨i, List.mem_filter.2 ⟨List.mem_range.2 ?_, by rw [has_bit hw]; exact hb⟩, rfl⟩
  refine Classical.byContradiction fun hc => ?_
  unfold bitN at hb
  rw [getD_out (by omega)] at hb
  simp at hb
theorem cnt_eq {a b : List Int} (ha : Wds a) (hb : Wds b) (h : ∀ i, bitN a i = true → bitN b i = true) (hc : cnt b ≤ cnt a) (i : Nat) (hi : bitN b i = true) : bitN a i = true := by
 refine Classical.byContradiction fun hn => ?_
 have hx : (i : Int) ∉ listF a := fun hm => by
  obtain ⟨j, e, hj⟩ := (listF_mem ha).1 hm
  have : i = j := Int.ofNat.inj e
  rw [this] at hn
  exact hn hj
 have := nodup_le3 (l := (i : Int) :: listF a) (l' := listF b) (List.nodup_cons.2 ⟨hx, listF_nodup a⟩) fun x hx => by
  rcases List.mem_cons.1 hx with rfl | hx
  ·exact (listF_mem hb).2 ⟨i, rfl, hi⟩
  ·obtain ⟨j, rfl, hj⟩ := (listF_mem ha).1 hx
   exact (listF_mem hb).2 ⟨j, rfl, h j hj⟩
 rw [List.length_cons] at this
 unfold cnt at hc
 omega
theorem insAt_spec (x : CodedD) (out : List CodedD) : ∀ n, (insAt x out n = 0 → n = 0 ∨ beforeF x (out.getD 0 c0) = true) ∧ ∀ k, insAt x out n = k + 1 → beforeF x (out.getD k c0) = false
 | 0 => ⟨fun _ => .inl rfl, fun k h => by simp [insAt] at h⟩
 | n + 1 => by
  obtain ⟨h1, h2⟩ := insAt_spec x out n
  unfold insAt
  split
  ·rename_i hb
   refine ⟨fun e => ?_, h2⟩
   rcases h1 e with e | e
   ·subst e
    exact .inr hb
   ·exact .inr e
  ·rename_i hb
   refine ⟨fun e => by omega, fun k e => ?_⟩
   have : n = k := by omega
   subst this
   simpa using hb
theorem before_true {a b : CodedD} (h : beforeF a b = true) : cnt b.2 ≤ cnt a.2 := by
 unfold beforeF at h
 rw [Bool.or_eq_true, Bool.and_eq_true, decide_eq_true_eq, beq_iff_eq] at h
 unfold cnt
 omega
theorem before_false {a b : CodedD} (h : beforeF a b = false) : cnt a.2 ≤ cnt b.2 := by
 unfold beforeF at h
 rw [Bool.or_eq_false_iff, decide_eq_false_iff_not] at h
 unfold cnt
 omega
def HM (out : List CodedD) : Prop := ∀ y ∈ out, cnt y.2 ≤ cnt (out.getD 0 c0).2
theorem insC_HM {out : List CodedD} (h : HM out) (x : CodedD) : HM (insC out x) := by
 obtain ⟨s1, s2⟩ := insAt_spec x out out.length
 have hle := insAt_le x out out.length
 intro y hy
 rw [insC_mem] at hy
 unfold insC
 cases hk : insAt x out out.length with
 | zero =>
  rw [List.take_zero, List.drop_zero, List.nil_append]
  have e : ([x] ++ out).getD 0 c0 = x := rfl
  rw [e]
  rcases hy with rfl | hy
  ·exact Nat.le_refl _
  ·have h1 := h y hy
   rcases s1 hk with e | e
   ·rw [List.eq_nil_of_length_eq_zero e] at hy
    cases hy
   ·exact Nat.le_trans h1 (before_true e)
 | succ k =>
  have hb := before_false (s2 k hk)
  rw [hk] at hle
  have e : (out.take (k + 1) ++ [x] ++ out.drop (k + 1)).getD 0 c0 = out.getD 0 c0 := by
   cases out with
   | nil => simp at hle
   | cons z out => rfl
  rw [e]
  rcases hy with rfl | hy
  ·exact Nat.le_trans hb (h _ (getD_mem (by omega)))
  ·exact h y hy
theorem coded_HM {d : List DeclD} : ∀ {l : List (List Int)} {o : List CodedD}, HM o → HM (l.foldl (codedA d) o)
 | [], _, h => h
 | b :: l, o, h => by
  rw [List.foldl_cons]
  exact coded_HM (insC_HM h _)
/-! Codes hold no other numbers than those of the declared types -/
def In (n : Nat) (c : List Int) : Prop := Wds c ∧ ∀ i, bitN c i = true → i < n
theorem in_nil (n : Nat) : In n [] := ⟨fun x hx => (by cases hx), fun i hi => by unfold bitN at hi; simp at hi⟩
theorem in_and {n : Nat} {a b : List Int} (ha : In n a) (hb : In n b) : In n (andF a b) :=
 ⟨and_wds ha.1 hb.1, fun i hi => by
  rw [and_bit ha.1 hb.1, Bool.and_eq_true] at hi
  exact ha.2 i hi.1⟩
theorem in_getD {n : Nat} {l : List (List Int)} (h : ∀ c ∈ l, In n c) (k : Nat) : In n (l.getD k []) := by
 by_cases hk : k < l.length
 ·exact h _ (getD_mem hk)
 ·rw [getD_mem2 hk]
  exact in_nil n
theorem famK_in {n : Nat} {l : List (List Int)} (h : ∀ c ∈ l, In n c) (i k : Nat) : ∀ c ∈ famK l i k, In n c := by
 intro c hc
 unfold famK at hc
 split at hc
 ·rcases List.mem_append.1 hc with hc | hc
  ·exact h c hc
  ·have : c = andF (l.getD i []) (l.getD k []) := by simpa using hc
   rw [this]
   exact in_and (in_getD h i) (in_getD h k)
 ·exact h c hc
theorem famI_in {q i : Nat} : ∀ {n k : Nat} {l : List (List Int)}, (∀ c ∈ l, In q c) → ∀ c ∈ famI i n k l, In q c
 | 0, _, _, h => h
 | n + 1, k, l, h => by
  unfold famI
  split
  ·exact famI_in (famK_in h i k)
  ·exact h
theorem famG_in {q : Nat} : ∀ {n i : Nat} {l : List (List Int)}, (∀ c ∈ l, In q c) → ∀ c ∈ famG n i l, In q c
 | 0, _, _, h => h
 | n + 1, i, l, h => by
  unfold famG
  split
  ·exact famG_in (famI_in h)
  ·exact h
def HTop (h : HierD) : Prop := ∀ t, 0 ≤ t → t < (h.1.length : Int) → hsubF h 0 t = true
theorem compile_top (d : List DeclD) : HTop (compileF d).1 := by
 have hk := compile_hok d
 unfold compileF at hk ⊢
 split
 ·intro t h0 h1
  simp at h1
  omega
 ·rename_i hv
  rw [if_neg hv] at hk
  have hv : (valuesF d).2 = 0 := Classical.byContradiction hv
  have h5 : check5F d = 0 := by
   unfold valuesF at hv
   split at hv
   ·rename_i h; exact absurd hv h
   ·rename_i h; exact Classical.byContradiction h
  obtain ⟨hz, -, -⟩ := check5_zero h5
  obtain ⟨h3, hlen, -⟩ := codesF_zero hz
  obtain ⟨-, h2, -, hn, hl⟩ := check3_zero h3
  have hnl := namesL_len d d.length
  rw [List.take_length] at hnl
  have hal : (namesL d).length ≤ 4096 := by omega
  obtain ⟨r, hr, hbel⟩ := below_root h3
  have hin : ∀ c ∈ familyF (codesL d), In (namesL d).length c := famG_in fun c hc => by
   obtain ⟨s, hs, rfl⟩ := List.mem_map.1 hc
   exact ⟨(code_bit (d := d) hal s 0).2.1, fun i hi => ((code_bit (d := d) hal s i).1.1 hi).1⟩
  obtain ⟨s, hs, es⟩ := List.any_eq_true.1 (namesL_has hr)
  have hsr : s = r.1 := by
   obtain ⟨x, hx, rfl⟩ := namesL_mem hs
   rw [decl_inj hn hx hr es]
  subst hsr
  have hc0 : codeF d (namesL d) r.1 ∈ familyF (codesL d) := by
   have hp : codesL d <+: familyF (codesL d) := famG_pre 257 0 (codesL d)
   exact hp.subset (List.mem_map.2 ⟨_, hs, rfl⟩)
  have hall : ∀ i, i < (namesL d).length → bitN (codeF d (namesL d) r.1) i = true := fun i hi => by
   refine (code_bit (d := d) hal r.1 i).1.2 ⟨hi, ?_⟩
   obtain ⟨x, hx, e⟩ := namesL_mem (getD_mem (d := ByteArray.empty) hi)
   rw [← e]
   exact hbel x hx
  have hHM : HM (codesR d) := coded_HM fun y hy => by cases hy
  have hmem0 := codesR_mem.2 ⟨_, hc0, rfl⟩
  have hpos : 0 < (codesR d).length := List.length_pos_of_mem hmem0
  have hmax := hHM _ hmem0
  obtain ⟨b, hb, eb⟩ := codesR_mem.1 (getD_mem (d := c0) hpos)
  rw [eb] at hmax
  have hfull := cnt_eq (hin b hb).1 (hin _ hc0).1 (fun i hi => hall i ((hin b hb).2 i hi)) hmax
  have hcode : codeT (hierV d) 0 = b := by
   show ((typeG (codesR d) _ _).getD 0 t0D).2.1 = b
   have : (typeG (codesR d) (valuesF d).1 (codesR d).length).getD 0 t0D = (((codesR d).getD 0 c0).1, ((codesR d).getD 0 c0).2, supsF (codesR d) ((0 : Nat) : Int), (valuesF d).1.getD 0 []) := by
    unfold typeG
    rw [List.getD_eq_getElem?_getD, List.getElem?_map, List.getElem?_range hpos]
    rfl
   rw [this, eb]
  have hlenT : (hierV d).1.length = (codesR d).length := typeG_len _ _ _
  intro t t0 t1
  refine (hsub_iff hk (by omega) (by show (0 : Int) < ((hierV d).1.length : Int); omega) t0 t1).2 fun i hi => ?_
  show bitN (codeT (hierV d) 0) i = true
  rw [hcode]
  refine hfull i (hall i ?_)
  have hcm := code_mem t0 t1
  have hmem : codeT (hierV d) t ∈ familyF (codesL d) := by
   have e : ((hierV d).1.map fun t => t.2.1) = (codesR d).map fun x => x.2 := by
    show ((typeG _ _ _).map fun t => t.2.1) = _
    unfold typeG
    rw [List.map_map]
    apply List.ext_getElem
    ·simp
    ·intro i h1 h2
     simp [List.getD_eq_getElem?_getD, show i < (codesR d).length by simpa using h1]
   have hcm2 : codeT (hierV d) t ∈ (hierV d).1.map fun t => t.2.1 := hcm
   rw [e] at hcm2
   obtain ⟨x, hx, ex⟩ := List.mem_map.1 hcm2
   obtain ⟨c, hc, rfl⟩ := codesR_mem.1 hx
   rw [← ex]
   exact hc
  exact (hin _ hmem).2 i hi
end
/- Plain: a path as a tree; the most general structure with one value at two paths. -/
section
open Go
end
/- Functions of grammarlabref07: Check. -/
section
attribute [local go_sem] canonS equalS
def ftR (h : HierD) (a : Int × Int) : Bool := decide (a.1 < (h.2.length : Int))
def ndR (h : HierD) (x : GNode) : Bool := decide (x.1 < (h.1.length : Int)) && x.2.all (ftR h)
def check7F (h : HierD) (f : List GNode) : Int := if (canonF f).2 ≠ 0 then (canonF f).2 else if f.all (ndR h) = false then 2 else if (compareF f (canonF f).1 == 0) = false then 3 else 0
def check7S : Spec := { ins := [T29, T25], pre := fun (_, f, _) => SmallF f, out := fun (h, f, _) => [.p T79 (check7F h f)] }
theorem check7_ok : FnOk Tryz.prog 55 check7S := by
 refine fn_ok Tryz.func55 (by kernel_rfl) rfl Tryz.ntmps55 (by decide) (by kernel_rfl) (tyTab_ok [(73, canonS), (20, equalS)]) (fns_cons canon_ok (fns_cons equal_ok fns_nil)) ?_
 rintro w0 O0 ⟨⟨ht, hf⟩, f, u⟩ hc - hs
 have hs : SmallF f := hs
 simp only [check7S, entEnv]
 repeat' (first | exact trivial | refine eS rfl ?_ | refine ev_out_inv ?_ | refine rX [0, 1, 2, 3, 4, 5, 6, 7, 8, 9, 16, 22, 35, 40, 52, 56] hc ?_ ?_ | (refine rC (fun hcond => ?_) (fun hcond => ?_) <;> try (cases hcond; done)))
 ·exact hs.2
 ·have h1 : check7F (ht, hf) f = (canonF f).2 := by unfold check7F; rw [if_pos hcond]
  exact ev_fin hc [.tmp 4] rfl (.inl rfl) (by simp) (by rw [h1]; first | exact eR | refine eRM ?_)
 ·have hz : (canonF f).2 = 0 := by simpa using hcond
  have hsc := small_canon hs.2
  have hfl := hs.1
  have hr : check7F (ht, hf) f = if f.all (ndR (ht, hf)) = false then 2 else if (compareF f (canonF f).1 == 0) = false then 3 else 0 := by unfold check7F; rw [if_neg (by rw [hz]; simp)]
  refine ev_loop (ι := {i : Nat // i ≤ f.length ∧ (f.take i).all (ndR (ht, hf)) = true}) (fun i => ⟨[(2, .bp 2 [] 0), (3, .bp 3 [] 0), (5, .bp 5 [] 0), (7, .p (.int .i64) (i.1 : Int))], [(2, .box 29 true [.p T26 ht, .p T27 hf]), (3, .box 25 true [.p T23 f]), (5, .box 25 true [.p T23 (canonF f).1])]⟩) (fun i => f.length - i.1) ⟨0, by simp⟩ (ent_match [(2, .nm 2), (3, .nm 3), (5, .nm 5)] rfl rfl ?_ ?_) (fun i => ?_)
  ·first | exact eN | refine eM ?_
  ·first | exact eN | refine eM ?_
  ·obtain ⟨i, hi, hall⟩ := i
   have hsn := fun h : i < f.length => all_take1 f (0, []) (ndR (ht, hf)) h
   simp only
   repeat' (first | exact trivial | refine eS rfl ?_ | refine ev_out_inv ?_ | refine rX [0, 1, 2, 3, 4, 5, 6, 7, 8, 9, 16, 22, 35, 40, 52, 56] hc ?_ ?_ | (refine rC (fun hcond => ?_) (fun hcond => ?_) <;> try (cases hcond; done)))
   ·exact hcond
   ·have hif : i < f.length := Int.ofNat_lt.1 (by assumption)
    have e : f.all (ndR (ht, hf)) = false := by
     rw [List.all_eq_false]
     refine ⟨_, mem_of_take_succ f (0, []) hif, ?_⟩
     unfold ndR
     rw [decide_eq_false (Int.not_lt.2 hcond)]
     simp
    rw [if_pos e] at hr
    exact ev_fin hc [.tmp 4] rfl (.inl rfl) (by simp) (by rw [hr]; first | exact eR | refine eRM ?_)
   ·have hif : i < f.length := Int.ofNat_lt.1 (by assumption)
    have hm := mem_of_take_succ f (0, []) hif
    have hnd : ndR (ht, hf) (f.getD i (0, [])) = (f.getD i (0, [])).2.all (ftR (ht, hf)) := by
     unfold ndR
     rw [decide_eq_true (show (f.getD i (0, [])).1 < (ht.length : Int) from hcond)]
     rfl
    have hal : (f.getD i (0, [])).2.length ≤ 100000 := hs.2 _ hm
    refine ev_loop (ι := {k : Nat // k ≤ (f.getD i (0, [])).2.length ∧ ((f.getD i (0, [])).2.take k).all (ftR (ht, hf)) = true}) (fun k => ⟨[(2, .bp 2 [] 0), (3, .bp 3 [] 0), (5, .bp 5 [] 0), (7, .p (.int .i64) (i : Int)), (8, .bp 8 [] 0), (9, .p (.int .i64) (k.1 : Int))], [(2, .box 29 true [.p T26 ht, .p T27 hf]), (3, .box 25 true [.p T23 f]), (5, .box 25 true [.p T23 (canonF f).1]), (8, .box 88 true [.p T3 (f.getD i (0, [])).1, .p T86 (f.getD i (0, [])).2])]⟩) (fun k => (f.getD i (0, [])).2.length - k.1) ⟨0, by simp⟩ (ent_match [(2, .nm 2), (3, .nm 3), (5, .nm 5), (8, .nm 8)] rfl rfl ?_ ?_) (fun k => ?_)
    ·first | exact eN | refine eM ?_
    ·first | exact eN | refine eM ?_
    ·obtain ⟨k, hk, hall2⟩ := k
     have hsn2 := fun h : k < (f.getD i (0, [])).2.length => all_take1 (f.getD i (0, [])).2 (0, 0) (ftR (ht, hf)) h
     simp only
     repeat' (first | exact trivial | refine eS rfl ?_ | refine ev_out_inv ?_ | refine rX [0, 1, 2, 3, 4, 5, 6, 7, 8, 9, 16, 22, 35, 40, 52, 56] hc ?_ ?_ | (refine rC (fun hcond => ?_) (fun hcond => ?_) <;> try (cases hcond; done)))
     ·exact hcond
     ·have hkL : k < (f.getD i (0, [])).2.length := Int.ofNat_lt.1 (by assumption)
      have e : f.all (ndR (ht, hf)) = false := by
       rw [List.all_eq_false]
       refine ⟨_, hm, ?_⟩
       rw [hnd, List.all_eq_false.2 ⟨_, mem_of_take_succ (f.getD i (0, [])).2 (0, 0) hkL, by unfold ftR; rw [decide_eq_false (Int.not_lt.2 hcond)]; simp⟩]
       simp
      rw [if_pos e] at hr
      exact ev_fin hc [.tmp 4] rfl (.inl rfl) (by simp) (by rw [hr]; first | exact eR | refine eRM ?_)
     ·exact eV
     ·have hkL : k < (f.getD i (0, [])).2.length := Int.ofNat_lt.1 (by assumption)
      refine ⟨⟨k + 1, hkL, ?_⟩, by simp only; omega, ent_match [(2, .nm 2), (3, .nm 3), (5, .nm 5), (8, .nm 8)] rfl rfl ?_ ?_⟩
      ·rw [hsn2 hkL, hall2]
       unfold ftR
       exact decide_eq_true hcond
      ·first | exact eN | refine eM ?_
      ·first | exact eN | refine eM ?_
     ·exact eV
     ·have hkL : (f.getD i (0, [])).2.take k = (f.getD i (0, [])).2 := List.take_of_length_le (Int.ofNat_le.1 hcond)
      rw [hkL] at hall2
      refine ⟨⟨i + 1, hif, ?_⟩, by simp only; omega, ent_match [(2, .nm 2), (3, .nm 3), (5, .nm 5)] rfl rfl ?_ ?_⟩
      ·rw [hsn hif, hall, hnd, hall2]
       rfl
      ·first | exact eN | refine eM ?_
      ·first | exact eN | refine eM ?_
   ·exact ⟨hs, hsc⟩
   ·have hif : f.take i = f := List.take_of_length_le (Int.ofNat_le.1 (by assumption))
    rw [hif] at hall
    rw [if_neg (by rw [hall]; simp), if_pos (by simpa using hcond)] at hr
    exact ev_fin hc [.tmp 4] rfl (.inl rfl) (by simp) (by rw [hr]; first | exact eR | refine eRM ?_)
   ·have hif : f.take i = f := List.take_of_length_le (Int.ofNat_le.1 (by assumption))
    rw [hif] at hall
    rw [if_neg (by rw [hall]; simp), if_neg (by rw [hcond]; simp)] at hr
    exact ev_fin hc [.tmp 4] rfl (.inl rfl) (by simp) (by rw [hr]; first | exact eR | refine eRM ?_)
def validB (h : HierD) (f : List GNode) : Bool := lightF f && check7F h f == 0
end
/- Plain: what is valid for a hierarchy is canonical. -/
section
theorem compile_bounds (d : List DeclD) : (compileF d).1.1.length ≤ 256 ∧ (compileF d).1.2.length ≤ 64 := by
 unfold compileF
 split
 ·exact ⟨by simp, by simp⟩
 ·rename_i hv
  have hv : (valuesF d).2 = 0 := Classical.byContradiction hv
  have h5 : check5F d = 0 := by
   unfold valuesF at hv
   split at hv
   ·rename_i h; exact absurd hv h
   ·rename_i h; exact Classical.byContradiction h
  obtain ⟨hz, hf64, -⟩ := check5_zero h5
  obtain ⟨-, hlen, -⟩ := codesF_zero hz
  refine ⟨?_, ?_⟩
  ·show (typeG _ _ _).length ≤ 256
   rw [typeG_len, codesR_len]
   exact hlen
  ·show (featuresF d).1.length ≤ 64
   unfold featuresF
   rw [if_neg (by rw [h5]; simp)]
   show ((featsF d).map (featD d)).length ≤ 64
   rw [List.length_map]
   exact hf64
theorem valid_goodH {H : HierD} (hb1 : H.1.length ≤ 256) (hb2 : H.2.length ≤ 64) {f : List GNode} (h : validB H f = true) : GoodF f ∧ SrtF f ∧ 0 < f.length ∧ TyOk H f ∧ canonicalB f = true ∧ f.length ≤ 12 ∧ ∀ x ∈ f, ∀ a ∈ x.2, 0 ≤ a.1 ∧ a.1 < (H.2.length : Int) := by
 unfold validB at h
 rw [Bool.and_eq_true, beq_iff_eq] at h
 obtain ⟨hl, hc⟩ := h
 unfold check7F at hc
 split at hc
 ·rename_i h1; exact absurd hc h1
 ·rename_i h1
  split at hc
  ·cases hc
  ·rename_i h2
   split at hc
   ·cases hc
   ·rename_i h3
    have h1 : (canonF f).2 = 0 := Classical.byContradiction h1
    have h2 : f.all (ndR H) = true := by simpa using h2
    have h3 : compareF f (canonF f).1 = 0 := by simpa using h3
    have hcan : canonicalB f = true := by
     unfold canonicalB
     simp only [Bool.and_eq_true, beq_iff_eq]
     refine ⟨⟨hl, ?_⟩, h1, ?_⟩
     ·rw [List.all_eq_true] at h2 ⊢
      intro x hx
      have := h2 x hx
      unfold ndR at this
      rw [Bool.and_eq_true, decide_eq_true_eq, List.all_eq_true] at this
      unfold ndB
      rw [Bool.and_eq_true, decide_eq_true_eq, List.all_eq_true]
      refine ⟨by omega, fun a ha => ?_⟩
      have := this.2 a ha
      unfold ftR at this
      rw [decide_eq_true_eq] at this
      unfold ftB
      rw [decide_eq_true_eq]
      omega
     ·rw [← compareF_eq h3]
      exact compareF_self f
    obtain ⟨g1, g2, g3, -⟩ := canonical_good hcan
    have hz : formF f = 0 := by
     unfold canonF at h1
     split at h1
     ·rename_i hh; exact hh
     ·exact h1
    have hzg : formG (f.length : Int) f = 0 := by
     unfold formF at hz
     split at hz
     ·cases hz
     ·split at hz
      ·cases hz
      ·exact hz
    refine ⟨g1, g2, g3, fun x hx => ?_, hcan, (light_small hl).1, fun x hx a ha => ?_⟩
    ·have h5 := List.all_eq_true.1 h2 x hx
     unfold ndR at h5
     rw [Bool.and_eq_true, decide_eq_true_eq] at h5
     exact ⟨(formG_zero hzg x hx).1, h5.1⟩
    ·have h5 := List.all_eq_true.1 h2 x hx
     unfold ndR at h5
     rw [Bool.and_eq_true, List.all_eq_true] at h5
     have h6 := h5.2 a ha
     unfold ftR at h6
     rw [decide_eq_true_eq] at h6
     exact ⟨((formG_zero hzg x hx).2 a ha).1, h6⟩
end
/- Plain: what is valid for a hierarchy, and the laws of unification. -/
section
theorem can_RO {f : List GNode} (hf : GoodF f) (hs : SrtF f) (h0 : 0 < f.length) (hc : canonicalB f = true) : RO f := by
 have h1 := part_RO hf hs h0 (fun _ _ => true)
 rwa [partF_self hc fun _ _ _ _ => rfl] at h1
theorem valid_VF {h : HierD} (hb1 : h.1.length ≤ 256) (hb2 : h.2.length ≤ 64) {f : List GNode} (hv : validB h f = true) : VF h f ∧ f.length ≤ 12 := by
 obtain ⟨g1, g2, g3, g4, g5, g6, g7⟩ := valid_goodH hb1 hb2 hv
 exact ⟨⟨g1, g3, g4, fun x hx => (srtA_iff _).1 (g2 x hx).1, g7, canonical_fix g5, can_RO g1 g2 g3 g5⟩, g6⟩
theorem VF.srt {h : HierD} (hu : HU h) {f : List GNode} (hv : VF h f) : SrtF f := fun x hx => by
 have := str_64 (hv.str x hx) (hv.ft64 hu x hx)
 exact ⟨(srtA_iff _).2 (hv.str x hx), by omega⟩
theorem gsub_iff {h : HierD} {a b : List GNode} (ha : VF h a) (hb : VF h b) : gsubF h a b = true ↔ ∃ m, Hom h a b m :=
 ⟨fun g => hom_of ha.good ha.pos hb.good hb.pos g, fun ⟨m, hm⟩ => gsub_of ha.good ha.pos ha.ro hm⟩
end
/- Plain: there is a unification if there is a structure that both subsume. -/
section
theorem ji_total {h : HierD} (hk : HOk h) {N : List GNode} {P : List (Int × Int)} : ∀ (k : Nat) (p ty : List Int) (ar : List (List (Int × Int))) (W : List (Int × Int)), JI h N P p ty ar W → nR p * ((featsN N).length + 1) + W.length ≤ k →
  (∃ p' ty' ar', JI h N P p' ty' ar' []) ∨ (∀ X v, TyOk h X → ¬ XOk h N P X v) := by
 intro k
 induction k with
 | zero =>
  intro p ty ar W hj hm
  have : W = [] := List.eq_nil_of_length_eq_zero (by omega)
  subst this
  exact .inl ⟨p, ty, ar, hj⟩
 | succ k ih =>
  intro p ty ar W hj hm
  cases hw : W.getLast? with
  | none =>
   have : W = [] := List.getLast?_eq_none_iff.1 hw
   subst this
   exact .inl ⟨p, ty, ar, hj⟩
  | some w =>
   have hW : W = W.dropLast ++ [w] := by
    obtain ⟨hne, e⟩ := List.getLast?_eq_some_iff.1 hw
    rw [e]
    simp
   obtain ⟨s, t⟩ := w
   rw [hW] at hj hm
   rw [List.length_append, List.length_singleton] at hm
   generalize W.dropLast = V at *
   obtain ⟨⟨s0, s1⟩, t0, t1⟩ := hj.wr (s, t) (by simp)
   simp only at s0 s1 t0 t1
   obtain ⟨rk, fo⟩ := hj.fo
   have lp := hj.lp
   obtain ⟨a, ha, a0, a1⟩ := fo.root s0 (by omega)
   obtain ⟨b, hb, b0, b1⟩ := fo.root t0 (by omega)
   by_cases he : a = b
   ·subst he
    exact ih p ty ar V (ji_skip hj ha hb) (by omega)
   ·cases hmt : (meetF h (ty.getD a.toNat 0) (ty.getD b.toNat 0)).2 with
    | false =>
     right
     intro X v hX hv
     have := (ji_meet hk hj ha hb hX hv).2.1
     rw [hmt] at this
     cases this
    | true =>
     have hj2 := ji_merge hk hj ha hb he hmt
     refine ih _ _ _ _ hj2 ?_
     have hn2 := nR_link (a := a) b0 b1 hb.root he
     have hla := str_len (hj.srt a.toNat) (fun x hx => (hj.arr a.toNat x hx).2)
     have hpr := Nat.le_trans (mrg_num (x := ar.getD a.toNat []) (y := ar.getD b.toNat [])) hla
     have hmul : nR p * ((featsN N).length + 1) = nR (p.set b.toNat a) * ((featsN N).length + 1) + ((featsN N).length + 1) := by rw [← hn2, Nat.add_mul, Nat.one_mul]
     rw [List.length_append]
     omega
theorem jis_total {h : HierD} (hk : HOk h) {N : List GNode} : ∀ (R P : List (Int × Int)) (p ty : List Int) (ar : List (List (Int × Int))), (∀ q ∈ R, (0 ≤ q.1 ∧ q.1 < (N.length : Int)) ∧ (0 ≤ q.2 ∧ q.2 < (N.length : Int))) → JI h N P p ty ar [] →
  (∃ p' ty' ar', JI h N (P ++ R) p' ty' ar' []) ∨ (∀ X v, TyOk h X → ¬ XOk h N (P ++ R) X v)
 | [], P, p, ty, ar, hr, hj => .inl ⟨p, ty, ar, by rw [List.append_nil]; exact hj⟩
 | q :: R, P, p, ty, ar, hr, hj => by
  obtain ⟨a, b⟩ := q
  have hq := hr (a, b) (by simp)
  have hP : P ++ (a, b) :: R = P ++ [(a, b)] ++ R := by simp
  rw [hP]
  rcases ji_total hk _ _ _ _ _ (ji_start hj hq.1 hq.2) (Nat.le_refl _) with ⟨p1, t1, r1, h1⟩ | hno
  ·exact jis_total hk R (P ++ [(a, b)]) p1 t1 r1 (fun q hq => hr q (by simp [hq])) h1
  ·exact .inr fun X v hX hv => hno X v hX ⟨hv.rng, hv.ty, hv.arc, fun q hq => hv.eq q (List.mem_append_left _ hq)⟩
theorem unif_ex {h : HierD} (hu : HU h) {a b X : List GNode} (va : VF h a) (vb : VF h b) (hl : a.length + b.length ≤ 100000) (hX : TyOk h X) {m1 m2 : Int → Int} (h1 : Hom h a X m1) (h2 : Hom h b X m2) : ∃ U, Unif h a b U := by
 have hN := joinN_len a b
 have hap := va.pos
 have hbp := vb.pos
 have hgN := joinN_good va.good vb.good hl
 rcases jis_total hu.ok (N := joinN a b) [(0, (a.length : Int))] [] _ _ _ (fun q hq => by
  have e : q = (0, (a.length : Int)) := by simpa using hq
  subst e
  simp only
  omega) (ji_init hgN (joinN_ty va.ty vb.ty) (joinN_str va.str vb.str)) with ⟨p, ty, ar, hj⟩ | hno
 ·exact ⟨_, unif_of va vb hj (quo_good hj (by omega) (joinN_ft (va.ft64 hu) (vb.ft64 hu)))⟩
 ·exfalso
  refine hno X _ hX (xok_eq (xok_join va.good vb.good (hom_xok h1) (hom_xok h2)) fun q hq => ?_)
  have e : q = (0, (a.length : Int)) := by simpa using hq
  subst e
  try simp only
  rw [if_pos (by omega), if_neg (by omega), Int.sub_self, h1.zero, h2.zero]
/-! What the statements ask -/
structure H11 (h : HierD) : Prop where
 hu : HU h
 top : HTop h
 b1 : h.1.length ≤ 256
theorem compile_h11 (d : List DeclD) : H11 (compileF d).1 := ⟨⟨compile_hok d, compile_inj d, (compile_bounds d).2⟩, compile_top d, (compile_bounds d).1⟩
theorem upper_law {h : HierD} {a b : List GNode} (va : VF h a) (vb : VF h b) (ho : (unifyF h a b).2 = true) : VF h (unifyF h a b).1 ∧ gsubF h a (unifyF h a b).1 = true ∧ gsubF h b (unifyF h a b).1 = true ∧ (unifyF h a b).1.length ≤ a.length + b.length := by
 have hU := unifyF_true ho
 exact ⟨hU.vf, (gsub_iff va hU.vf).2 hU.left, (gsub_iff vb hU.vf).2 hU.right, hU.len⟩
end
/- Plain: a part of what is valid is valid; parts of what unifies unify. -/
section
theorem part_VF {h : HierD} (hu : HU h) {f : List GNode} (vf : VF h f) (acc : Int → Int × Int → Bool) : VF h (partF acc f) := by
 have hs := vf.srt hu
 obtain ⟨hcg, hcs, hc0, -⟩ := part_good2 vf.good hs vf.pos acc
 obtain ⟨hPg, -⟩ := part_good vf.good hs acc
 have hPl := partL_len acc f f.length
 have hpos := vf.pos
 refine ⟨hcg, hc0, part_ty vf.good hs vf.pos vf.ty acc, fun x hx => (srtA_iff _).1 (hcs x hx).1, fun x hx a ha => ?_, can_idem hPg (r := 0) (by omega) (by omega), part_RO vf.good hs vf.pos acc⟩
 obtain ⟨i, hi, rfl⟩ := mem_getD (0, []) hx
 obtain ⟨n, hn, e1, -, n0, n1, -⟩ := part_node vf.good hs vf.pos acc (i := (i : Int)) (by omega) (by omega)
 have har := part_arcs vf.good hs vf.pos acc hn
 rw [e1, arcsAt, Int.toNat_natCast] at har
 rw [har] at ha
 obtain ⟨b, hb, rfl⟩ := List.mem_map.1 ha
 have hb1 := (List.mem_filter.1 hb).1
 exact vf.ft _ (mem_of_take_succ f (0, []) (k := n.toNat) (by omega)) b hb1
theorem drop_law {h : HierD} (hh : H11 h) {f g : List GNode} (vf : VF h f) (vg : VF h g) (lf : f.length ≤ 100) (lg : g.length ≤ 100) (A : List Int) (ho : (unifyF h f g).2 = true) :
  VF h (pdropF f A) ∧ VF h (pdropF g A) ∧ VF h (pdropF (unifyF h f g).1 A) ∧ (pdropF f A).length ≤ 100 ∧ (pdropF g A).length ≤ 100 ∧ (unifyF h (pdropF f A) (pdropF g A)).2 = true ∧ VF h (unifyF h (pdropF f A) (pdropF g A)).1 ∧ gsubF h (unifyF h (pdropF f A) (pdropF g A)).1 (pdropF (unifyF h f g).1 A) = true := by
 have hu := hh.hu
 have hU := unifyF_true ho
 generalize (unifyF h f g).1 = U at *
 have v1 : VF h (pdropF f A) := part_VF hu vf _
 have v2 : VF h (pdropF g A) := part_VF hu vg _
 have v3 : VF h (pdropF U A) := part_VF hu hU.vf _
 have l1 : (pdropF f A).length ≤ f.length := (part_good2 vf.good (vf.srt hu) vf.pos _).2.2.2
 have l2 : (pdropF g A).length ≤ g.length := (part_good2 vg.good (vg.srt hu) vg.pos _).2.2.2
 obtain ⟨m1, h1⟩ := hU.left
 obtain ⟨m2, h2⟩ := hU.right
 obtain ⟨k1, g1⟩ := (gsub_iff v1 v3).1 (pdrop_mono vf.good (vf.srt hu) vf.pos hU.vf.good (hU.vf.srt hu) hU.vf.pos h1 A)
 obtain ⟨k2, g2⟩ := (gsub_iff v2 v3).1 (pdrop_mono vg.good (vg.srt hu) vg.pos hU.vf.good (hU.vf.srt hu) hU.vf.pos h2 A)
 obtain ⟨W, hW⟩ := unif_ex hu v1 v2 (by omega) v3.ty g1 g2
 rw [unifyF_some hu hW]
 exact ⟨v1, v2, v3, by omega, by omega, rfl, hW.vf, (gsub_iff hW.vf v3).2 (hW.least _ v3.ty k1 g1 k2 g2)⟩
theorem hier_h11 (d : List DeclD) : H11 (hierF d) := by
 unfold hierF
 split
 ·exact compile_h11 d
 ·exact compile_h11 preludeF
end
/- Functions of grammarlabref15: Hier. -/
section
attribute [local go_sem] compileS preludeS
def hierS : Spec := { ins := [T22], pre := fun _ => True, out := fun (d, _) => [.p T29 (hierF d)] }
theorem hier_ok : FnOk Tryz.prog 32 hierS := by
 refine fn_ok Tryz.func32 (by kernel_rfl) rfl Tryz.ntmps32 (by decide) (by kernel_rfl) (tyTab_ok [(52, compileS), (53, preludeS)]) (fns_cons compile_ok (fns_cons prelude_ok fns_nil)) ?_
 rintro w0 O0 ⟨d, u⟩ hc - -
 simp only [hierS, entEnv]
 repeat' (first | exact trivial | refine eS rfl ?_ | refine ev_out_inv ?_ | refine rX [0, 2, 3, 4, 5, 9, 16] hc ?_ ?_ | (refine rC (fun hcond => ?_) (fun hcond => ?_) <;> try (cases hcond; done)))
 ·have h1 : hierF d = (compileF d).1 := by unfold hierF; rw [if_pos ⟨by exact eV, hcond⟩]
  exact ev_fin hc [.cell 2 29] rfl (.inl rfl) (by simp) (by rw [h1]; first | exact eR | refine eRM ?_)
 ·have h1 : hierF d = (compileF preludeF).1 := by unfold hierF; rw [if_neg (fun h => hcond h.2)]
  exact ev_fin hc [.cell 2 29] rfl (.inl rfl) (by simp) (by rw [h1]; first | exact eR | refine eRM ?_)
 ·have h1 : hierF d = (compileF preludeF).1 := by
   unfold hierF
   rw [if_neg]
   intro h
   have := h.1
   exact eV
  exact ev_fin hc [.cell 2 29] rfl (.inl rfl) (by simp) (by rw [h1]; first | exact eR | refine eRM ?_)
end
/- Functions of grammarlabref15: Valid. -/
section
attribute [local go_sem] lightS check7S
def validS : Spec := { ins := [T29, T25], pre := fun _ => True, out := fun (h, f, _) => [.p .bool (validB h f)], lend := true }
theorem valid_ok : FnOk Tryz.prog 36 validS := by
 refine fn_ok Tryz.func36 (by kernel_rfl) rfl Tryz.ntmps36 (by decide) (by kernel_rfl) (tyTab_ok [(54, lightS), (55, check7S)]) (fns_cons light_ok (fns_cons check7_ok fns_nil)) ?_
 rintro w0 O0 ⟨⟨ht, hf⟩, f, u⟩ hc - -
 simp only [validS, entEnv]
 repeat' (first | exact trivial | refine eS rfl ?_ | refine ev_out_inv ?_ | refine rX [0, 1, 2, 3, 4] hc ?_ ?_ | (refine rC (fun hcond => ?_) (fun hcond => ?_) <;> try (cases hcond; done)))
 ·intro h
  obtain ⟨h1, h2⟩ := light_small h
  exact ⟨Nat.le_trans h1 (by decide), fun x hx => Nat.le_trans (h2 x hx) (by decide)⟩
 ·exact ev_fin hc [.tmp 4] rfl (.inl rfl) (by simp) (by unfold validB; first | exact eR | refine eRM ?_)
end
/- The law RestrictTwice. -/
section
abbrev CaseD := List DeclD × List GNode × List GNode × List Int × List Int × List (List Int) × Int × Int
def light15F (h : HierD) (c : CaseD) : Bool := validB h c.2.1 && validB h c.2.2.1 && decide ((c.2.2.2.1.length : Int) ≤ 20) && decide ((c.2.2.2.2.1.length : Int) ≤ 20) && lightPathsF c.2.2.2.2.2.1
attribute [local go_sem] hierS validS lightPathsS exS pdropS pkeepS pdepthS equalS
def light15S : Spec := { ins := [T29, T75], pre := fun _ => True, out := fun (h, c, _) => [.p .bool (light15F h c)], lend := true }
attribute [local go_sem] light15S
theorem light15_ok : FnOk Tryz.prog 49 light15S := by
 refine fn_ok Tryz.func49 (by kernel_rfl) rfl Tryz.ntmps49 (by decide) (by kernel_rfl) (tyTab_ok [(36, validS), (27, lightPathsS)]) (fns_cons valid_ok (fns_cons lightPaths_ok fns_nil)) ?_
 rintro w0 O0 ⟨⟨ht, hf⟩, ⟨cd, cf, cg, ca, cb, cp, c1, c2⟩, u⟩ hc - -
 simp only [light15S, entEnv]
 repeat' (first | exact trivial | refine eS rfl ?_ | refine ev_out_inv ?_ | refine rX [0, 1, 2, 3, 4] hc ?_ ?_ | (refine rC (fun hcond => ?_) (fun hcond => ?_) <;> try (cases hcond; done)))
 exact ev_fin hc [.tmp 4] rfl (.inl rfl) (by simp) (by unfold light15F; first | exact eR | refine eRM ?_)
def lawTS : Spec := { ins := [T75], pre := fun _ => True, out := fun _ => [.p .bool true] }
attribute [local go_sem] lawTS
end
/- Functions of unify: Unify. -/
section
noncomputable def unifyS : Spec := { ins := [T29, T25, T25], pre := fun (h, a, b, _) => HU h ∧ VF h a ∧ VF h b ∧ List.length a + List.length b ≤ 10000, out := fun (h, a, b, _) => [.p T25 (unifyF h a b).1, .p .bool (unifyF h a b).2] }
attribute [local go_sem] unifyS
theorem unify_ok : FnOk Tryz.prog 18 unifyS := by
 refine fn_ok Tryz.func18 (by kernel_rfl) rfl Tryz.ntmps18 (by decide) (by kernel_rfl) (tyTab_ok []) fns_nil ?_
 rintro w0 O0 ⟨h, a, b, u⟩ hc - ⟨hu, va, vb, hab⟩
 simp only [unifyS, entEnv]
 repeat' (first | exact trivial | refine eS rfl ?_ | refine ev_out_inv ?_ | refine rX [0, 1, 2, 3, 4, 5, 6, 7, 8, 25] hc ?_ ?_ | (refine rC (fun hcond => ?_) (fun hcond => ?_) <;> try (cases hcond; done)))
 refine cP 3 hc ?_ ?_
 ·trivial
 ·refine rM hc (add_ok h [] [] [] a va.good (by simp) rfl rfl) [(1, .nm 11), (2, .nil), (3, .nil), (4, .nil)] [] ?_ ?_ ?_
  ·first | exact eN | refine eM ?_
  ·simp only [clO]
   first | exact eN | refine eM ?_
  ·rintro _ _ ⟨rfl, rfl⟩
   refine ⟨[(11, .nm 1), (102, .nm 2), (103, .nm 3), (104, .nm 4)], .raw (.tuple #[]), [(11, .box 94 true [.p T29 h, .sr 102 T3 0 (numsG 0 a.length).length, .sr 103 T3 0 (typesG a a.length).length, .sr 104 T86 0 (arcsU 0 a a.length).length]), (102, .arr 3 T3 (numsG 0 a.length)), (103, .arr 3 T3 (typesG a a.length)), (104, .arr 86 T86 (arcsU 0 a a.length))], rfl, rfl, ?_, ?_, rfl, rfl, evL_end ?_⟩
   ·simp only [clO]
    first | exact eN | refine eM ?_
   ·first | exact eN | refine eM ?_
   ·have la : (numsG 0 a.length).length = a.length := numsG_len 0 a.length
    have lt : (typesG a a.length).length = a.length := by unfold typesG; rw [List.length_map, List.take_length]
    have lr : (arcsU 0 a a.length).length = a.length := by unfold arcsU; rw [List.length_map, List.take_length]
    repeat' (first | exact trivial | refine eS rfl ?_ | refine ev_out_inv ?_ | refine rX [0, 1, 2, 3, 4, 5, 6, 7, 8, 25] hc ?_ ?_ | (refine rC (fun hcond => ?_) (fun hcond => ?_) <;> try (cases hcond; done)))
    refine cP 3 hc ?_ ?_
    ·trivial
    ·refine rM hc (add_ok h (numsG 0 a.length) (typesG a a.length) (arcsU 0 a a.length) b vb.good (by omega) (by omega) (by omega)) [(1, .nm 11), (2, .nm 102), (3, .nm 103), (4, .nm 104)] [102, 103, 104] ?_ ?_ ?_
     ·first | exact eN | refine eM ?_
     ·simp only [clO]
      first | exact eN | refine eM ?_
     ·rintro _ _ ⟨rfl, rfl⟩
      rw [la, numsG_app, types_join, arcs_join]
      rw [show a.length + b.length = (joinN a b).length from (joinN_len a b).symm]
      have hN := joinN_len a b
      have hgN := joinN_good va.good vb.good (by omega)
      have hji := ji_init hgN (joinN_ty va.ty vb.ty) (joinN_str va.str vb.str)
      have hft := joinN_ft (va.ft64 hu) (vb.ft64 hu)
      have hfl := featsN_len (N := joinN a b) fun x hx => str_64 (joinN_str va.str vb.str x hx) (hft x hx)
      have hap := va.pos
      have hbp := vb.pos
      have hof := fun p ty ar hj hQ => unif_of va vb (p := p) (ty := ty) (ar := ar) hj hQ
      have hno := unif_none va vb
      generalize numsG 0 (joinN a b).length = p0 at *
      generalize typesN (joinN a b) = t0 at *
      generalize arcsN (joinN a b) = r0 at *
      refine ⟨[(11, .nm 1), (102, .nm 2), (103, .nm 3), (104, .nm 4)], .raw (.tuple #[]), [(11, .box 94 true [.p T29 h, .sr 102 T3 0 p0.length, .sr 103 T3 0 t0.length, .sr 104 T86 0 r0.length]), (102, .arr 3 T3 p0), (103, .arr 3 T3 t0), (104, .arr 86 T86 r0)], rfl, rfl, ?_, ?_, rfl, rfl, evL_end ?_⟩
      ·simp only [clO]
       first | exact eN | refine eM ?_
      ·first | exact eN | refine eM ?_
      ·repeat' (first | exact trivial | refine eS rfl ?_ | refine ev_out_inv ?_ | refine rX [0, 1, 2, 3, 4, 5, 6, 7, 8, 25] hc ?_ ?_ | (refine rC (fun hcond => ?_) (fun hcond => ?_) <;> try (cases hcond; done)))
       refine cP 4 hc ?_ ?_
       ·trivial
       ·refine rM hc (join_ok h hu.ok hji (a := 0) (b := (a.length : Int)) (by omega) (by omega) (by omega) (by omega)) [(101, .nm 11), (102, .nm 102), (103, .nm 103), (104, .nm 104)] [102, 103, 104] ?_ ?_ ?_
        ·first | exact eN | refine eM ?_
        ·simp only [clJ]
         first | exact eN | refine eM ?_
        ·rintro res objs' (⟨rfl, p1, t1, r1, rfl, hj1⟩ | ⟨rfl, ⟨p1, t1, r1, rfl⟩, hno1⟩)
         ·have hQ := quo_good hj1 (by omega) hft
          have hUn := unifyF_some hu (hof p1 t1 r1 hj1 hQ)
          refine ⟨[(11, .nm 101), (102, .nm 102), (103, .nm 103), (104, .nm 104)], .p .bool true, [(11, .box 94 true [.p T29 h, .sr 102 T3 0 p1.length, .sr 103 T3 0 t1.length, .sr 104 T86 0 r1.length]), (102, .arr 3 T3 p1), (103, .arr 3 T3 t1), (104, .arr 86 T86 r1)], rfl, rfl, ?_, ?_, rfl, rfl, ?_⟩
          ·simp only [clJ]
           first | exact eN | refine eM ?_
          ·first | exact eN | refine eM ?_
          ·refine rL [0, 1, 2, 3, 4, 5, 6, 7, 8, 25] hc ?_ ?_
           ·trivial
           ·repeat' (first | exact trivial | refine eS rfl ?_ | refine ev_out_inv ?_ | refine rX [0, 1, 2, 3, 4, 5, 6, 7, 8, 25] hc ?_ ?_ | (refine rC (fun hcond => ?_) (fun hcond => ?_) <;> try (cases hcond; done)))
            refine cP 1 hc ?_ ?_
            ·trivial
            ·refine rM hc (graph_ok h hj1.fo hQ (by rw [hj1.lt, hj1.lp]) (by rw [hj1.la, hj1.lp]) (fun k x hx => by rw [hj1.lp]; exact (hj1.arr k x hx).1) (r := 0) (by omega) (by rw [hj1.lp]; omega)) [(101, .nm 11), (102, .nm 102), (103, .nm 103), (104, .nm 104)] [11, 102, 103, 104] ?_ ?_ ?_
             ·first | exact eN | refine eM ?_
             ·simp only [clJ]
              first | exact eN | refine eM ?_
             ·rintro _ objs' rfl
              refine ⟨[], .p T25 (canonicalF (quo p1 t1 r1) (rtF p1 0)), [], rfl, rfl, ?_, ?_, rfl, rfl, ?_⟩
              ·first | exact eN | refine eM ?_
              ·first | exact eN | refine eM ?_
              ·refine rL [0, 1, 2, 3, 4, 5, 6, 7, 8, 25] hc ?_ ?_
               ·trivial
               ·repeat' (first | exact trivial | refine eS rfl ?_ | refine ev_out_inv ?_ | refine rX [0, 1, 2, 3, 4, 5, 6, 7, 8, 25] hc ?_ ?_ | (refine rC (fun hcond => ?_) (fun hcond => ?_) <;> try (cases hcond; done)))
                exact ev_fin hc [.cell 6 25, .tmp 7] rfl (.inl rfl) (by simp) (by rw [hUn]; first | exact eR | refine eRM ?_)
         ·have hUn := hno (fun X v hX hv => hno1 X v hX hv)
          refine ⟨[(11, .nm 101), (102, .nm 102), (103, .nm 103), (104, .nm 104)], .p .bool false, [(11, .box 94 true [.p T29 h, .sr 102 T3 0 p1.length, .sr 103 T3 0 t1.length, .sr 104 T86 0 r1.length]), (102, .arr 3 T3 p1), (103, .arr 3 T3 t1), (104, .arr 86 T86 r1)], rfl, rfl, ?_, ?_, rfl, rfl, ?_⟩
          ·simp only [clJ]
           first | exact eN | refine eM ?_
          ·first | exact eN | refine eM ?_
          ·refine rL [0, 1, 2, 3, 4, 5, 6, 7, 8, 25] hc ?_ ?_
           ·trivial
           ·repeat' (first | exact trivial | refine eS rfl ?_ | refine ev_out_inv ?_ | refine rX [0, 1, 2, 3, 4, 5, 6, 7, 8, 25] hc ?_ ?_ | (refine rC (fun hcond => ?_) (fun hcond => ?_) <;> try (cases hcond; done)))
            exact ev_fin hc [.cell 6 25, .tmp 7] rfl (.inl rfl) (by simp) (by rw [hUn]; first | exact eR | refine eRM ?_)
end
/- The law RestrictUnify. -/
section
attribute [local go_sem] lawTS hierS exS pdropS gsubS light15S unifyS
theorem he3 (h : HierD) : (h.1, h.2) = h := rfl
theorem light_VF {d : List DeclD} {c : CaseD} (h : light15F (hierF d) c = true) : (VF (hierF d) c.2.1 ∧ c.2.1.length ≤ 12) ∧ (VF (hierF d) c.2.2.1 ∧ c.2.2.1.length ≤ 12) ∧ c.2.2.2.1.length ≤ 20 := by
 have hh := hier_h11 d
 unfold light15F at h
 simp only [Bool.and_eq_true, decide_eq_true_eq] at h
 obtain ⟨⟨⟨⟨hvf, hvg⟩, hla⟩, hlb⟩, hlp⟩ := h
 exact ⟨valid_VF hh.b1 hh.hu.ft hvf, valid_VF hh.b1 hh.hu.ft hvg, by omega⟩
theorem law14_ok : FnOk Tryz.prog 14 lawTS := by
 refine fn_ok Tryz.func14 (by kernel_rfl) rfl Tryz.ntmps14 (by decide) (by kernel_rfl) (tyTab_ok [(32, hierS), (49, light15S), (50, exS), (51, pdropS), (48, gsubS), (18, unifyS)]) (fns_cons hier_ok (fns_cons light15_ok (fns_cons ex_ok (fns_cons pdrop_ok (fns_cons gsub_ok (fns_cons unify_ok fns_nil)))))) ?_
 rintro w0 O0 ⟨⟨cd, cf, cg, ca, cb, cp, c1, c2⟩, u⟩ hc - -
 simp only [lawTS, entEnv]
 have hh := hier_h11 cd
 have hlt := light_VF (d := cd) (c := (cd, cf, cg, ca, cb, cp, c1, c2))
 repeat' (first | exact trivial | refine eS rfl ?_ | refine ev_out_inv ?_ | refine rP [0, 1, 2, 3, 4, 5, 6, 7, 14, 26] hc ?_ ?_ | fail)
 simp only [he3 (hierF cd)]
 generalize hcase : (cd, cf, cg, ca, cb, cp, c1, c2) = cas at *
 refine rC (fun hcond => ?_) (fun hcond => ?_) <;> try (cases hcond; done)
 ·repeat' (first | exact trivial | refine eS rfl ?_ | refine ev_out_inv ?_ | refine rX [0, 1, 2, 3, 4, 5, 6, 7, 14, 26] hc ?_ ?_ | (refine rC (fun hcond => ?_) (fun hcond => ?_) <;> try (cases hcond; done)))
  exact ev_fin hc [.tmp 2] rfl (.inl rfl) (by simp) (by first | exact eR | refine eRM ?_)
 ·obtain ⟨⟨vf, lf⟩, ⟨vg, lg⟩, la⟩ := hlt hcond
  subst hcase
  simp only at vf lf vg lg la
  generalize hierF cd = h at *
  have hdl := fun ho => drop_law hh vf vg (by omega) (by omega) ca ho
  repeat' (first | exact trivial | refine eS rfl ?_ | refine ev_out_inv ?_ | refine rP [0, 1, 2, 3, 4, 5, 6, 7, 14, 26] hc ?_ ?_ | fail)
  ·exact ⟨hh.hu, vf, vg, by omega⟩
  ·refine rC (fun hok => ?_) (fun hok => ?_) <;> try (cases hok; done)
   ·repeat' (first | exact trivial | refine eS rfl ?_ | refine ev_out_inv ?_ | refine rX [0, 1, 2, 3, 4, 5, 6, 7, 14, 26] hc ?_ ?_ | (refine rC (fun hcond => ?_) (fun hcond => ?_) <;> try (cases hcond; done)))
    exact ev_fin hc [.tmp 2] rfl (.inl rfl) (by simp) (by first | exact eR | refine eRM ?_)
   ·obtain ⟨v1, v2, v3, l1, l2, o1, v4, g1⟩ := hdl hok
    have hU := upper_law vf vg hok
    repeat' (first | exact trivial | refine eS rfl ?_ | refine ev_out_inv ?_ | refine rP [0, 1, 2, 3, 4, 5, 6, 7, 14, 26] hc ?_ ?_ | fail)
    refine ev_mix drawsAny hc 17 [([0, 1, 2, 3, 4, 5, 6, 7, 8, 9, 10, 11, 12, 13, 15], 16)] [14] (by kernel_rfl) (mxA ?_ ?_)
    ·exact ⟨⟨vf.good, vf.srt hh.hu, vf.pos, by omega⟩, ⟨vg.good, vg.srt hh.hu, vg.pos, by omega⟩, hh.hu, v1, v2, by omega⟩
    ·refine mxL hc [] ?_ ?_
     ·trivial
     ·refine mxE [0, 1, 2, 3, 4, 5, 6, 7, 14, 26] hc ?_ ?_ ?_
      ·trivial
      ·trivial
      ·simp only [he3 h] at *
       repeat' (first | exact trivial | refine eS rfl ?_ | refine ev_out_inv ?_ | refine rX [0, 1, 2, 3, 4, 5, 6, 7, 14, 26] hc ?_ ?_ | (refine rC (fun hcond => ?_) (fun hcond => ?_) <;> try (cases hcond; done)))
       ·have vU := hU.1
        exact ⟨fun _ => ⟨vU.good, vU.srt hh.hu, vU.pos, by omega⟩, fun _ => ⟨v4.good, v4.pos, v3.good, v3.pos, v4.ty, v3.ty⟩⟩
       ·simp only [he3 h]
        rw [o1, g1]
        exact ev_fin hc [.tmp 2] rfl (.inl rfl) (by simp) (by first | exact eR | refine eRM ?_)
end
end Go.Proofs.YtebfihindnhccaaGreat.Fw
