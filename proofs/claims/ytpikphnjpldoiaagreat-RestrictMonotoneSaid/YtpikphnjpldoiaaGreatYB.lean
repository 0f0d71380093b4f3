/- The contracts of the program's functions on graphs, and of the sorting that they use. -/
/- Functions of Go's library under graph.canonical: isNaN, Compare, byFeature, the sort of what is sorted. -/
import Derived.Test.YtpikphnjpldoiaaGreatZJ
import Derived.Test.YtpikphnjpldoiaaGreatZI
import Derived.Test.YtpikphnjpldoiaaGreatYA
set_option linter.unusedVariables false
set_option linter.unusedSimpArgs false
namespace Go.Proofs.YtpikphnjpldoiaaGreat.Fw
open Go
attribute [local irreducible] Ev
attribute [local go_sem] cx_tb entEnv List.toList_toArray evSeq evG evK vcK guardOf guardT guardB_true guardB_false step1 step0 stepQ takesIn namesParts namesOf namesStore frzAll frz frz1 fixN frzEnv frzObjs drpEnv drpObjs AV.frz AV.frzs AV.drp AV.drps AV.names AV.namess aq qmap qPick qAlloc qBox qBuild qBuildSlice qBuildSlice2 qLoad qLoadB qLoadB2 qLoadE qLoadE2 qLoadE3 qFieldI qOff qPart qField qIndexA qIndex qIndexS qNil qBin qUn qConv qMake qMake2 qSlice qExtract qLen qAppend qAppend2 qAppend3 qMin qMax qCall qCall2 qCall3 qBuiltin qCallee aloud lStoreD lStore lStoreB lStoreB2 lStoreE lStoreE3 lStoreE4 lCallee lBuiltin lAppend lAppend2 lAppend3 lAppend4 opv lk constAV optAV sliceQ bin binI binS zf1 zfs pfs AV.cells nthOff loadB offB storeB notAg fitsT fitsO Ty.cell1 fieldOk partsT partsAg argsT asT asT1 asTs pairO srT castTo_self getF setF getP setP offP offF fldT rvAV rvObj rvAVs rvObjs resAV RV.flat Ty.flat Ty.size St.add upd del fresh Value.oneCell' refZ Ty.dflt sub_all sub_one sub_take sub_end List.take_succ_cons List.take_zero List.length_cons cast0 castS sub_app take_app sub_app1 take_app1 take_one1 natC zero_le_natC i64_min i64_max u64_min u64_max u8_min u8_max inK_i64 inK_u64 inK_u8 Option.map_some Option.map_none Option.bind_some Option.getD_some Option.getD_none Option.isNone_none Option.isNone_some Bool.and_true Bool.true_and Bool.and_false Bool.false_and Bool.not_true Bool.not_false if_true if_false List.length_cons List.length_nil and_true true_and and_self List.all_cons List.all_nil List.append_nil List.nil_append List.cons_append List.getElem?_cons_zero List.getElem?_cons_succ List.getElem?_nil List.map_cons List.map_nil List.set_cons_zero List.set_cons_succ List.isEmpty_nil List.isEmpty_cons decide_true decide_false beq_self_eq_true bne_self_eq_false Nat.zero_add Nat.add_zero Nat.sub_zero Int.toNat_natCast Int.toNat_zero Int.toNat_one List.take_length List.length_append List.length_singleton true_or or_true or_self false_or or_false Ty.agg.injEq Ty.slice.injEq Ty.prod.injEq Ty.int.injEq Option.some.injEq beq_iff_eq evM evMG evMQ opM isPick viewE viewS viewG opTs opTmp consE guardM guardM1 guardM2 sideM sideM2 pickM pickM2 sufB chEq_nil chEq_nc chEq_cn chEq_cons memB dstOf Op.operands Call.operands List.filterMap_cons List.filterMap_nil List.append_eq Bool.cond_false_right Bool.cond_true_left cond_true cond_false implies_true decide_eq_true_eq beq_true beq_false Bool.or_true Bool.or_false Bool.true_or Bool.false_or Option.isSome_some fieldV namesAg namesAgs capNs qClo qClo2 qMakeMap qMakeMap2 qMakeMap3 qLook qLook2 qLook3 qLook4 keyT keyP eqT inB lMapUp lMapUp2 lMapUp3 namesMap argEnv cm_tb List.drop_zero pruneR prune rem1 afterM addDst fgtEnv AV.fgt AV.fgts Obj.fgt restObjs handed memB calleeOf opvs matchArgs matchArg List.any_cons List.any_nil evF evFO evFQ evFK addQ frOk qs List.flatMap_cons List.flatMap_nil List.cons_append tn appN fgtEN List.take_succ_cons List.drop_succ_cons isYl parEnv rangeSt cY_tb marked_tb renOk renIn matchObjs matchEnv matchE matchAV matchAVs matchF matchO
attribute [local go_sem] ty1 ty2 ty3 ty4 ty5 ty9 ty12 ty21 ty22 ty23 ty24 ty25 ty26 ty27 ty28 ty29 ty30 ty31 ty32 ty33 ty34 ty35 ty36 ty37 ty38 ty39 ty40 ty41 ty42 ty43 ty44 ty45 ty46 ty47 ty48 ty49 ty50 ty51 ty52 ty53 ty54 ty55 ty56 ty57 ty58 ty60 ty61 ty62 ty64 ty65 ty66 ty67 ty68 ty70 ty71 ty72 ty74 ty75 ty76 ty77 ty78 ty79 ty80 ty81 ty82 ty83 ty84 ty85 ty87 ty89 ty91 ty92 ty93 ty94 ty95 ty96 ty97 ty98 ty99 ty100 ty101 ty102 ty103 ty104 ty105 ty106 ty107 ty108 ty109 ty110 ty111 ty112 ty113 ty114 ty115 ty117 ty118 ty120 ty121 ty122 ty123 ty124 ty125 ty126 ty127 ty128 ty130 ty131 ty132 ty133 ty134 ty135 ty136 ty137 ty138 ty139 ty140 ty141 ty142 ty143 ty144 ty145 ty146 ty147 ty148 ty149 ty150 ty151 ty154 ty155 ty156 ty158 ty159 ty160 ty161 ty162 ty163 ty164 ty165 ty166 ty167 ty169 ty170 ty171 ty172 ty173 ty174 ty175 ty176 ty177 ty178 ty179 ty180 ty181 ty182 ty183 ty184 ty185 ty186 ty187 ty188 ty190 ty191 ty192 ty193 ty194 ty195 ty196 ty197 ty198 ty199 ty200 ty201 ty202 ty203 ty204 ty205 ty207 ty208 ty209 ty210 ty211 ty212 ty213 ty214 ty215 ty216 ty217 ty218 ty219 ty220 ty221 ty222 ty223 ty224 ty225 ty226 ty227 ty228 ty229 ty230 ty231 ty232 ty233 ty234 ty236 ty237 ty238 ty239 ty240 ty241 ty242 ty243 ty244 ty245 ty246 ty247 ty248 ty249 ty250 ty251 ty257 ty260 ty261
set_option maxRecDepth 100000
set_option maxHeartbeats 4000000
section
def isNaNS : Spec := { ins := [T3], pre := fun _ => True, out := fun _ => [.p .bool false] }
attribute [local go_sem] isNaNS
def cmpI (a b : Int) : Int := if a < b then -1 else if b < a then 1 else 0
def compareIntS : Spec := { ins := [T3, T3], pre := fun _ => True, out := fun (a, b, _) => [.p T3 (cmpI a b)] }
attribute [local go_sem] compareIntS
def byFeatureS : Spec := { ins := [T77, T77], pre := fun _ => True, out := fun (a, b, _) => [.p T3 (cmpI (Prod.fst a) (Prod.fst b))] }
attribute [local go_sem] byFeatureS
theorem isNaN_ok : FnOk Tryz.prog 94 isNaNS := by
  refine fn_ok Tryz.func94 (by kernel_rfl) rfl Tryz.ntmps94 (by decide) (by kernel_rfl) (tyTab_ok []) fns_nil ?_
  rintro w0 O0 ⟨x, u⟩ hc - -
  simp only [isNaNS, entEnv]
  repeat' (first | exact trivial | refine eS rfl ?_ | refine ev_out_inv ?_ | refine rX [0, 2] hc ?_ ?_ | (refine rC (fun hcond => ?_) (fun hcond => ?_) <;> try (cases hcond; done)))
  exact ev_fin hc [.tmp 2] rfl (.inl rfl) (by simp) (by first | exact eR | refine eRM ?_)
theorem compareInt_ok : FnOk Tryz.prog 65 compareIntS := by
  refine fn_ok Tryz.func65 (by kernel_rfl) rfl Tryz.ntmps65 (by decide) (by kernel_rfl) (tyTab_ok [(94, isNaNS)]) (fns_cons isNaN_ok fns_nil) ?_
  rintro w0 O0 ⟨a, b, u⟩ hc - -
  simp only [compareIntS, entEnv]
  repeat' (first | exact trivial | refine eS rfl ?_ | refine ev_out_inv ?_ | refine rX [0, 1, 4, 5, 6, 11, 12, 13, 16, 19] hc ?_ ?_ | (refine rC (fun hcond => ?_) (fun hcond => ?_) <;> try (cases hcond; done)))
  · have e : cmpI a b = -1 := if_pos hcond
    exact ev_fin hc [.tmp 4] rfl (.inl rfl) (by simp) (by rw [e]; first | exact eR | refine eRM ?_)
  · have e : cmpI a b = 1 := by unfold cmpI; rw [if_neg (by omega), if_pos hcond]
    exact ev_fin hc [.tmp 4] rfl (.inl rfl) (by simp) (by rw [e]; first | exact eR | refine eRM ?_)
  · have e : cmpI a b = 0 := by unfold cmpI; rw [if_neg (by omega), if_neg (by omega)]
    exact ev_fin hc [.tmp 4] rfl (.inl rfl) (by simp) (by rw [e]; first | exact eR | refine eRM ?_)
theorem byFeature_ok : FnOk Tryz.prog 162 byFeatureS := by
  refine fn_ok Tryz.func162 (by kernel_rfl) rfl Tryz.ntmps162 (by decide) (by kernel_rfl) (tyTab_ok [(65, compareIntS)]) (fns_cons compareInt_ok fns_nil) ?_
  rintro w0 O0 ⟨a, b, u⟩ hc - -
  simp only [byFeatureS, entEnv]
  repeat' (first | exact trivial | refine eS rfl ?_ | refine ev_out_inv ?_ | refine rX [0, 1, 2, 3, 4] hc ?_ ?_ | (refine rC (fun hcond => ?_) (fun hcond => ?_) <;> try (cases hcond; done)))
  exact ev_fin hc [.tmp 4] rfl (.inl rfl) (by simp) (by first | exact eR | refine eRM ?_)
def SrtA (l : List (Int × Int)) : Prop := ∀ i, i + 1 < l.length → (l.getD i (0, 0)).1 < (l.getD (i + 1) (0, 0)).1
theorem insertion_ok (l : List (Int × Int)) (hl : l.length ≤ 100000) (hs : SrtA l) : CallM Tryz.prog 191 [.sr 1000000 T77 0 l.length, .p T3 (0 : Int), .p T3 (l.length : Int), .fn 162] [(1000000, .arr 77 T77 l)] [1000000] (fun res objs' => res = .raw (.tuple #[]) ∧ objs' = [(1000000, .arr 77 T77 l)]) := by
  refine fnM_ok Tryz.func191 (by kernel_rfl) rfl Tryz.ntmps191 (by simp only [List.length_cons, List.length_nil]; omega) (by kernel_rfl) rfl rfl (tyTab_ok [(162, byFeatureS)]) (fns_cons byFeature_ok fns_nil) ?_
  intro w0 K O0 ρ0 hc hok1 hok2
  simp only [argEnv]
  repeat' (first | exact trivial | refine eS rfl ?_ | refine ev_out_inv ?_ | refine rX [0, 1, 2, 3, 8, 9, 14, 34] hc ?_ ?_ | (refine rC (fun hcond => ?_) (fun hcond => ?_) <;> try (cases hcond; done)))
  · omega
  · refine ev_loop (ι := {i : Nat // 1 ≤ i ∧ (i = 1 ∨ i ≤ l.length)}) (fun i => ⟨[(0, .sr 1000000 T77 0 l.length), (1, .p T3 (0 : Int)), (2, .p T3 (l.length : Int)), (3, .fn 162), (8, .p (.int .i64) (i.1 : Int))], [(1000000, .arr 77 T77 l)]⟩) (fun i => l.length - i.1) ⟨1, by omega⟩ (ent_match [(1000000, .nm 1000000)] rfl rfl ?_ ?_) (fun i => ?_)
    · first | exact eN | refine eM ?_
    · first | exact eN | refine eM ?_
    · obtain ⟨i, hi1, hi2⟩ := i
      repeat' (first | exact trivial | refine eS rfl ?_ | refine ev_out_inv ?_ | refine rX [0, 1, 2, 3, 8, 9, 14, 34] hc ?_ ?_ | (refine rC (fun hcond => ?_) (fun hcond => ?_) <;> try (cases hcond; done)))
      · have hil : i < l.length := by exact eV
        refine ev_loop (ι := Unit) (fun j => ⟨[(0, .sr 1000000 T77 0 l.length), (1, .p T3 (0 : Int)), (2, .p T3 (l.length : Int)), (3, .fn 162), (8, .p (.int .i64) (i : Int)), (9, .p (.int .i64) (i : Int))], [(1000000, .arr 77 T77 l)]⟩) (fun j => 0) () (ent_match [(1000000, .nm 1000000)] rfl rfl ?_ ?_) (fun j => ?_)
        · first | exact eN | refine eM ?_
        · first | exact eN | refine eM ?_
        · repeat' (first | exact trivial | refine ev_seq ?_ | refine ev_skip ?_ | refine ev_ret ?_ | refine ev_exit ?_ | refine ev_block ?_ | refine ev_out_seq ?_ | refine ev_exit_seq ?_ | refine ev_ret_seq ?_ | refine ev_out_blk ?_ | refine ev_ret_blk ?_ | refine ev_exit_eq ?_ | refine ev_exit_ne (by decide) ?_ | refine ev_exit_inv ?_ | refine ev_ret_inv ?_ | refine ev_out_inv ?_ | refine rP [0, 1, 2, 3, 8, 9, 14, 34] hc ?_ ?_ | refine rA [0, 1, 2, 3, 8, 9, 14, 34] hc ?_ ?_ | refine rD [0, 1, 2, 3, 8, 9, 14, 34] hc ?_ ?_ | refine rT [0, 1, 2, 3, 8, 9, 14, 34] 1 hc ?_ ?_ | refine rT [0, 1, 2, 3, 8, 9, 14, 34] 2 hc ?_ ?_ | refine rT [0, 1, 2, 3, 8, 9, 14, 34] 3 hc ?_ ?_)
          · dsimp only [Ty.den] at *
            refine ⟨fun _ => hcond, fun _ => ⟨by omega, by omega⟩, fun _ => ⟨by omega, by omega⟩⟩
          · refine ev_condE (by simp only [go_sem, Nat.reduceEqDiff, reduceCtorEq, Nat.reduceAdd, Nat.reduceSub, Nat.reduceMul, Nat.reduceLeDiff, Nat.reduceLT, Int.reduceLE, Int.reduceToNat, Int.reduceNeg, ↓reduceIte]; rfl) ?_ ?_
            · intro hc2
              exfalso
              simp only [Bool.and_eq_true, decide_eq_true_eq] at hc2
              have h2 := hc2.2
              have e : ((i : Int) - 1).toNat = i - 1 := by omega
              have h3 := hs (i - 1) (by omega)
              rw [show i - 1 + 1 = i by omega] at h3
              rw [e] at h2
              unfold cmpI at h2
              rw [if_neg (by omega), if_pos h3] at h2
              omega
            · intro _
              repeat' (first | exact trivial | refine eS rfl ?_ | refine ev_out_inv ?_ | refine rX [0, 1, 2, 3, 8, 9, 14, 34] hc ?_ ?_ | (refine rC (fun hcond => ?_) (fun hcond => ?_) <;> try (cases hcond; done)))
              · dsimp only [Ty.den] at *
                omega
              · refine ⟨⟨i + 1, by omega, .inr (by omega)⟩, by simp only; omega, ent_match [(1000000, .nm 1000000)] rfl rfl ?_ ?_⟩
                · first | exact eN | refine eM ?_
                · first | exact eN | refine eM ?_
      · exact ev_finM hc [] rfl (.inr rfl) (.raw (.tuple #[])) rfl ⟨rfl, rfl⟩
end
/- Functions of Go's library under graph.canonical: the sort of at most 12 sorted elements. -/
section
theorem pdq_ok (l : List (Int × Int)) (lim : Int) (hl : l.length ≤ 12) (hs : SrtA l) : CallM Tryz.prog 188 [.sr 1000000 T77 0 l.length, .p T3 (0 : Int), .p T3 (l.length : Int), .p T3 lim, .fn 162] [(1000000, .arr 77 T77 l)] [1000000] (fun res objs' => res = .raw (.tuple #[]) ∧ objs' = [(1000000, .arr 77 T77 l)]) := by
  refine fnM_ok Tryz.func188 (by kernel_rfl) rfl Tryz.ntmps188 (by simp only [List.length_cons, List.length_nil]; omega) (by kernel_rfl) rfl rfl (tyTab_ok []) fns_nil ?_
  intro w0 K O0 ρ0 hc hok1 hok2
  simp only [argEnv]
  repeat' (first | exact trivial | refine eS rfl ?_ | refine ev_out_inv ?_ | refine rX [0, 1, 2, 3, 4, 10, 11, 12, 13, 14, 15, 16, 17, 18, 19, 20, 25, 32, 39, 56, 75, 80, 97, 125] hc ?_ ?_ | (refine rC (fun hcond => ?_) (fun hcond => ?_) <;> try (cases hcond; done)))
  refine ev_loop (ι := Unit) (fun x => ⟨[(0, .sr 1000000 T77 0 l.length), (1, .p T3 (0 : Int)), (2, .p T3 (l.length : Int)), (3, .p T3 lim), (4, .fn 162)], [(1000000, .arr 77 T77 l)]⟩) (fun x => 0) () (ent_match [(1000000, .nm 1000000)] rfl rfl ?_ ?_) (fun x => ?_)
  · first | exact eN | refine eM ?_
  · first | exact eN | refine eM ?_
  · repeat' (first | exact trivial | refine eS rfl ?_ | refine ev_out_inv ?_ | refine rX [0, 1, 2, 3, 4, 10, 11, 12, 13, 14, 15, 16, 17, 18, 19, 20, 25, 32, 39, 56, 75, 80, 97, 125] hc ?_ ?_ | (refine rC (fun hcond => ?_) (fun hcond => ?_) <;> try (cases hcond; done)))
    · omega
    · refine cP 4 hc ?_ ?_
      · trivial
      · refine rM hc (insertion_ok l (by omega) hs) [(1000000, .nm 1000000)] [] ?_ ?_ ?_
        · first | exact eN | refine eM ?_
        · first | exact eN | refine eM ?_
        · rintro _ _ ⟨rfl, rfl⟩
          refine ⟨[(1000000, .nm 1000000)], .raw (.tuple #[]), [(1000000, .arr 77 T77 l)], rfl, rfl, ?_, ?_, rfl, rfl, evL_end ?_⟩
          · first | exact eN | refine eM ?_
          · first | exact eN | refine eM ?_
          · repeat' (first | exact trivial | refine ev_seq ?_ | refine ev_skip ?_ | refine ev_ret ?_ | refine ev_exit ?_ | refine ev_block ?_ | refine ev_out_seq ?_ | refine ev_exit_seq ?_ | refine ev_ret_seq ?_ | refine ev_out_blk ?_ | refine ev_ret_blk ?_ | refine ev_exit_eq ?_ | refine ev_exit_ne (by decide) ?_ | refine ev_exit_inv ?_ | refine ev_ret_inv ?_ | refine ev_out_inv ?_ | refine rP [0, 1, 2, 3, 4, 10, 11, 12, 13, 14, 15, 16, 17, 18, 19, 20, 25, 32, 39, 56, 75, 80, 97, 125] hc ?_ ?_ | refine rA [0, 1, 2, 3, 4, 10, 11, 12, 13, 14, 15, 16, 17, 18, 19, 20, 25, 32, 39, 56, 75, 80, 97, 125] hc ?_ ?_ | refine rD [0, 1, 2, 3, 4, 10, 11, 12, 13, 14, 15, 16, 17, 18, 19, 20, 25, 32, 39, 56, 75, 80, 97, 125] hc ?_ ?_ | refine rT [0, 1, 2, 3, 4, 10, 11, 12, 13, 14, 15, 16, 17, 18, 19, 20, 25, 32, 39, 56, 75, 80, 97, 125] 1 hc ?_ ?_ | refine rT [0, 1, 2, 3, 4, 10, 11, 12, 13, 14, 15, 16, 17, 18, 19, 20, 25, 32, 39, 56, 75, 80, 97, 125] 2 hc ?_ ?_ | refine rT [0, 1, 2, 3, 4, 10, 11, 12, 13, 14, 15, 16, 17, 18, 19, 20, 25, 32, 39, 56, 75, 80, 97, 125] 3 hc ?_ ?_)
            exact ev_finM hc [] rfl (.inl rfl) (.raw (.tuple #[])) rfl ⟨rfl, rfl⟩
    · exfalso
      omega
    · exfalso
      omega
end
/- Functions of Go's library under graph.canonical: Values, AppendSeq, Collect, SortFunc, SortedFunc, of what is sorted. -/
section
theorem loop_eta {L : Go.Loop} (h1 : L.state = .ready) (h2 : L.pending = none) : { { L with state := .busy } with state := .ready, pending := none } = L := by
  cases L; simp_all
theorem values_ok (l : List (Int × Int)) : CallM Tryz.prog 161 [.p T43 l] [] [] (fun res objs' => res = .clo 183 [1] ∧ objs' = [(1, .box 43 false [.p T43 l])]) := by
  refine fnM_ok Tryz.func161 (by kernel_rfl) rfl Tryz.ntmps161 (by simp only [List.length_cons, List.length_nil]; omega) (by kernel_rfl) rfl rfl (tyTab_ok []) fns_nil ?_
  intro w0 K O0 ρ0 hc hok1 hok2
  simp only [argEnv]
  repeat' (first | exact trivial | refine eS rfl ?_ | refine ev_out_inv ?_ | refine rX [0, 1, 2] hc ?_ ?_ | (refine rC (fun hcond => ?_) (fun hcond => ?_) <;> try (cases hcond; done)))
  exact ev_finM hc [.tmp 2] rfl (.inl rfl) (.clo 183 [1]) (by simp only [retAV, ret1, retAVs, notAT, resV, resLoad, pureOf, go_sem, Nat.reduceEqDiff, reduceCtorEq, Nat.reduceAdd, Nat.reduceSub, Nat.reduceMul, Nat.reduceLeDiff, Nat.reduceLT, Int.reduceLE, Int.reduceToNat, Int.reduceNeg, ↓reduceIte]) ⟨rfl, rfl⟩
def seqObjs (l : List (Int × Int)) (L : Go.Loop) (tm : Array Value) (i : Nat) : List (Nat × Obj) := [(1, .box 43 false [.p T43 l]), (101, .loop L), (102, .frame tm [(2, .bp 2 [] 0), (6, .clo 183 [1])]), (2, .box 43 false [.sr 7 T77 0 i]), (7, .arr 77 T77 (l.take i))]
theorem values1_ok (l : List (Int × Int)) (hl : l.length ≤ 100000) (L : Go.Loop) (tm : Array Value) (hY : ∀ i, i < l.length → CallY Tryz.prog 101 [.p T77 (l.getD i (0, 0))] (seqObjs l L tm i) [1, 101, 102, 2] (fun res objs' => res = .p .bool true ∧ objs' = seqObjs l L tm (i + 1))) :
    CallM Tryz.prog 183 [.yl 101, .bp 1 [] 0] (seqObjs l L tm 0) [1, 101, 102, 2] (fun res objs' => res = .raw (.tuple #[]) ∧ objs' = seqObjs l L tm l.length) := by
  refine fnM_ok Tryz.func183 (by kernel_rfl) rfl Tryz.ntmps183 (by simp only [List.length_cons, List.length_nil]; omega) (by kernel_rfl) rfl rfl (tyTab_ok []) fns_nil ?_
  intro w0 K O0 ρ0 hc hok1 hok2
  simp only [argEnv, seqObjs]
  repeat' (first | exact trivial | refine eS rfl ?_ | refine ev_out_inv ?_ | refine rX [0, 1, 4, 5, 6, 7, 8, 14] hc ?_ ?_ | (refine rC (fun hcond => ?_) (fun hcond => ?_) <;> try (cases hcond; done)))
  refine ev_loop (ι := {i : Nat // i ≤ l.length}) (fun i => ⟨[(0, .yl 101), (1, .bp 1 [] 0), (5, .p T43 l), (6, .p (.int .i64) (l.length : Int)), (7, .p (.int .i64) (i.1 : Int))], seqObjs l L tm i.1⟩) (fun i => l.length - i.1) ⟨0, by omega⟩ (ent_match [(1, .nm 1), (101, .nm 101), (102, .nm 102), (2, .nm 2), (7, .nm 7)] rfl rfl ?_ ?_) (fun i => ?_)
  · simp only [seqObjs]
    first | exact eN | refine eM ?_
  · first | exact eN | refine eM ?_
  · obtain ⟨i, hi⟩ := i
    simp only [seqObjs]
    repeat' (first | exact trivial | refine eS rfl ?_ | refine ev_out_inv ?_ | refine rX [0, 1, 4, 5, 6, 7, 8, 14] hc ?_ ?_ | (refine rC (fun hcond => ?_) (fun hcond => ?_) <;> try (cases hcond; done)))
    · exact eV
    · have hil : i < l.length := by exact eV
      refine cP 2 hc ?_ ?_
      · trivial
      · refine rY 101 101 hc (hY i hil) [(1, .nm 1), (101, .nm 101), (102, .nm 102), (2, .nm 2), (7, .nm 7)] [7] ?_ ?_ ?_
        · first | exact eN | refine eM ?_
        · simp only [seqObjs]
          first | exact eN | refine eM ?_
        · rintro _ _ ⟨rfl, rfl⟩
          refine ⟨[(1, .nm 1), (101, .nm 101), (102, .nm 102), (2, .nm 2), (7, .nm 7)], .p .bool true, seqObjs l L tm (i + 1), rfl, rfl, ?_, ?_, rfl, rfl, ?_⟩
          · simp only [seqObjs]
            first | exact eN | refine eM ?_
          · first | exact eN | refine eM ?_
          · simp only [seqObjs]
            refine evLp_all [0, 1, 5, 6, 7, 14] hc (by simp only [go_sem, Nat.reduceEqDiff, reduceCtorEq, Nat.reduceAdd, Nat.reduceSub, Nat.reduceMul, Nat.reduceLeDiff, Nat.reduceLT, Int.reduceLE, Int.reduceToNat, Int.reduceNeg, ↓reduceIte]; rfl) ?_ ?_
            · trivial
            · repeat' (first | exact trivial | refine eS rfl ?_ | refine ev_out_inv ?_ | refine rX [0, 1, 4, 5, 6, 7, 8, 14] hc ?_ ?_ | (refine rC (fun hcond => ?_) (fun hcond => ?_) <;> try (cases hcond; done)))
              · exact eV
              · refine ⟨⟨i + 1, by omega⟩, by simp only; omega, ent_match [(1, .nm 1), (101, .nm 101), (102, .nm 102), (2, .nm 2), (7, .nm 7)] rfl rfl ?_ ?_⟩
                · simp only [seqObjs]
                  first | exact eN | refine eM ?_
                · first | exact eN | refine eM ?_
    · have hil : i = l.length := by exact eV
      subst hil
      refine ev_finM hc [] rfl (.inr rfl) (.raw (.tuple #[])) rfl ⟨rfl, ?_⟩
      simp only [seqObjs, List.take_length]
theorem appendSeq_ok (l : List (Int × Int)) (hl : l.length ≤ 100000) : CallM Tryz.prog 187 [.raw (.slice none 0 0), .clo 183 [1]] [(1, .box 43 false [.p T43 l])] [] (fun res objs' => res = .sr 7 T77 0 l.length ∧ objs' = [(7, .arr 77 T77 l)]) := by
  refine fnMR_ok Tryz.func187 (by kernel_rfl) rfl Tryz.ntmps187 (by simp only [List.length_cons, List.length_nil]; omega) (by kernel_rfl) rfl rfl (tyTab_ok []) fns_nil ?_
  intro w0 K O0 ρ0 hc hok1 hok2
  simp only [argEnv]
  repeat' (first | exact trivial | refine eS rfl ?_ | refine ev_out_inv ?_ | refine rX [0, 1, 2, 4, 5, 6, 7] hc ?_ ?_ | (refine rC (fun hcond => ?_) (fun hcond => ?_) <;> try (cases hcond; done)))
  refine ev_range hc rfl rfl (by simp only [go_sem, Nat.reduceEqDiff, reduceCtorEq, Nat.reduceAdd, Nat.reduceSub, Nat.reduceMul, Nat.reduceLeDiff, Nat.reduceLT, Int.reduceLE, Int.reduceToNat, Int.reduceNeg, ↓reduceIte]; rfl) 101 103 102 rfl rfl rfl rfl ?_
  intro L tm hL1 hL2 hL3 hL4 hL5 hL6 htm
  refine ⟨_, seqObjs l L tm 0, [1, 101, 102, 2], _, [(1, .nm 1), (101, .nm 101), (102, .nm 102), (2, .nm 2), (7, .nil)], [], values1_ok l hl L tm ?_, rfl, rfl, ?_, ?_, rfl, ?_⟩
  · intro i hi
    refine callY_ok (fr := 102) rfl rfl hL1 hL4 hL5 hL6 hL3 htm rfl (by kernel_rfl) (by simp) rfl rfl (by kernel_rfl) (by kernel_rfl) (tyTab_ok []) fns_nil ?_
    intro w1 K1 O1 ρ1 lb hc hok3 hok4 hb
    simp only [seqObjs, parEnv]
    repeat' (first | exact trivial | refine eS rfl ?_ | refine ev_out_inv ?_ | refine rX [0, 1, 2, 4, 5, 6, 7] hc ?_ ?_ | (refine rC (fun hcond => ?_) (fun hcond => ?_) <;> try (cases hcond; done)))
    refine ⟨rfl, ?_⟩
    repeat' (first | exact trivial | refine eS rfl ?_ | refine ev_out_inv ?_ | refine rX [0, 1, 2, 4, 5, 6, 7] hc ?_ ?_ | (refine rC (fun hcond => ?_) (fun hcond => ?_) <;> try (cases hcond; done)))
    · simp only [maxN]; omega
    · have e : List.take i (List.take i l) ++ [((l.getD i (0, 0)).1, (l.getD i (0, 0)).2)] = l.take (i + 1) := by
        rw [take_snoc l (0, 0) hi, List.take_of_length_le (Nat.le_of_eq (by rw [List.length_take]; omega) : (l.take i).length ≤ i)]
      refine Ev.ent (σ' := ⟨[], [(1, .box 43 false [.p T43 l]), (101, .loop { L with state := .busy }), (102, .frame tm [(2, .bp 2 [] 0), (6, .clo 183 [1])]), (2, .box 43 false [.sr 7 T77 0 (i + 1)]), (7, .arr 77 T77 (l.take (i + 1)))]⟩) ?_ (ent_match [(1, .nm 1), (101, .nm 101), (102, .nm 102), (2, .nm 2), (7, .nm 7)] rfl rfl ?_ ?_)
      · refine ev_roundN hc (yn := 101) rfl rfl (by simp) hb ⟨rfl, ?_⟩
        simp only [seqObjs, go_sem, Nat.reduceEqDiff, reduceCtorEq, Nat.reduceAdd, Nat.reduceSub, Nat.reduceMul, Nat.reduceLeDiff, Nat.reduceLT, Int.reduceLE, Int.reduceToNat, Int.reduceNeg, ↓reduceIte, loop_eta hL1 hL2]
      · first | exact eN | refine eM ?_
        exact e
      · first | exact eN | refine eM ?_
  · simp only [rangeSt]
    first | exact eN | refine eM ?_
  · simp only [rangeSt, seqObjs]
    first | exact eN | refine eM ?_
  · rintro _ _ ⟨rfl, rfl⟩
    refine ⟨[(1, .nm 1), (101, .nm 101), (102, .nm 102), (2, .nm 2), (7, .nm 7)], seqObjs l L tm l.length, L, rfl, rfl, ?_, rfl, rfl, rfl, by rw [hL1]; rfl, ?_⟩
    · simp only [seqObjs]
      first | exact eN | refine eM ?_
    · intro b
      rw [hL2]
      simp only [EvJ, seqObjs, rangeSt, go_sem, Nat.reduceEqDiff, reduceCtorEq, Nat.reduceAdd, Nat.reduceSub, Nat.reduceMul, Nat.reduceLeDiff, Nat.reduceLT, Int.reduceLE, Int.reduceToNat, Int.reduceNeg, ↓reduceIte]
      replace hc := marked_ok (dn := 103) (b := b) hc
      repeat' (first | exact trivial | refine eS rfl ?_ | refine ev_out_inv ?_ | refine rX [0, 1, 2, 4, 5, 6, 7] hc ?_ ?_ | (refine rC (fun hcond => ?_) (fun hcond => ?_) <;> try (cases hcond; done)))
      refine Ev.ent (σ' := ⟨[(4, .sr 7 T77 0 l.length)], [(7, .arr 77 T77 l), (103, .dfr)]⟩) ?_ (ent_match [(7, .nm 7), (103, .nm 103)] rfl rfl ?_ ?_)
      · exact ev_finMR hc [.tmp 4] rfl (.inl rfl) rfl rfl (.sr 7 T77 0 l.length) (by simp only [retAV, ret1, retAVs, notAT, resV, resLoad, pureOf, go_sem, Nat.reduceEqDiff, reduceCtorEq, Nat.reduceAdd, Nat.reduceSub, Nat.reduceMul, Nat.reduceLeDiff, Nat.reduceLT, Int.reduceLE, Int.reduceToNat, Int.reduceNeg, ↓reduceIte]) ⟨rfl, by simp only [go_sem, Nat.reduceEqDiff, reduceCtorEq, Nat.reduceAdd, Nat.reduceSub, Nat.reduceMul, Nat.reduceLeDiff, Nat.reduceLT, Int.reduceLE, Int.reduceToNat, Int.reduceNeg, ↓reduceIte]⟩
      · first | exact eN | refine eM ?_
      · first | exact eN | refine eM ?_
theorem collect_ok (l : List (Int × Int)) (hl : l.length ≤ 100000) : CallM Tryz.prog 181 [.clo 183 [1]] [(1, .box 43 false [.p T43 l])] [] (fun res objs' => res = .sr 7 T77 0 l.length ∧ objs' = [(7, .arr 77 T77 l)]) := by
  refine fnM_ok Tryz.func181 (by kernel_rfl) rfl Tryz.ntmps181 (by simp only [List.length_cons, List.length_nil]; omega) (by kernel_rfl) rfl rfl (tyTab_ok []) fns_nil ?_
  intro w0 K O0 ρ0 hc hok1 hok2
  simp only [argEnv]
  repeat' (first | exact trivial | refine eS rfl ?_ | refine ev_out_inv ?_ | refine rX [0, 2] hc ?_ ?_ | (refine rC (fun hcond => ?_) (fun hcond => ?_) <;> try (cases hcond; done)))
  refine cP 1 hc ?_ ?_
  · trivial
  · refine rM hc (appendSeq_ok l hl) [(1, .nm 1)] [1] ?_ ?_ ?_
    · first | exact eN | refine eM ?_
    · first | exact eN | refine eM ?_
    · rintro _ _ ⟨rfl, rfl⟩
      refine ⟨[(7, .nm 7)], .sr 7 T77 0 l.length, [(7, .arr 77 T77 l)], rfl, rfl, ?_, ?_, rfl, rfl, ?_⟩
      · first | exact eN | refine eM ?_
      · first | exact eN | refine eM ?_
      · refine evLp_all [2] hc (by simp only [go_sem, Nat.reduceEqDiff, reduceCtorEq, Nat.reduceAdd, Nat.reduceSub, Nat.reduceMul, Nat.reduceLeDiff, Nat.reduceLT, Int.reduceLE, Int.reduceToNat, Int.reduceNeg, ↓reduceIte]; rfl) ?_ ?_
        · trivial
        · repeat' (first | exact trivial | refine eS rfl ?_ | refine ev_out_inv ?_ | refine rX [0, 2] hc ?_ ?_ | (refine rC (fun hcond => ?_) (fun hcond => ?_) <;> try (cases hcond; done)))
          exact ev_finM hc [.tmp 2] rfl (.inl rfl) (.sr 7 T77 0 l.length) (by simp only [retAV, ret1, retAVs, notAT, resV, resLoad, pureOf, go_sem, Nat.reduceEqDiff, reduceCtorEq, Nat.reduceAdd, Nat.reduceSub, Nat.reduceMul, Nat.reduceLeDiff, Nat.reduceLT, Int.reduceLE, Int.reduceToNat, Int.reduceNeg, ↓reduceIte]) ⟨rfl, rfl⟩
theorem len64_ok (x : Int) (h0 : 0 ≤ x) (h1 : x < 256) : CallM Tryz.prog 132 [.p (.int .u64) x] [] [] (fun res objs' => (∃ n : Int, res = .p T3 n) ∧ objs' = []) := by
  refine fnM_ok Tryz.func132 (by kernel_rfl) rfl Tryz.ntmps132 (by simp only [List.length_cons, List.length_nil]; omega) (by kernel_rfl) rfl rfl (tyTab_ok []) fns_nil ?_
  intro w0 K O0 ρ0 hc hok1 hok2
  simp only [argEnv]
  repeat' (first | exact trivial | refine eS rfl ?_ | refine ev_out_inv ?_ | refine rX [0, 2, 4, 8, 14] hc ?_ ?_ | (refine rC (fun hcond => ?_) (fun hcond => ?_) <;> try (cases hcond; done)))
  all_goals first | (exfalso; omega) | skip
  refine evp_regionP [0, 2] hc rfl (by simp only [go_sem, Nat.reduceEqDiff, reduceCtorEq, Nat.reduceAdd, Nat.reduceSub, Nat.reduceMul, Nat.reduceLeDiff, Nat.reduceLT, Int.reduceLE, Int.reduceToNat, Int.reduceNeg, ↓reduceIte, ByteArray.size, List.size_toArray, maxN]; rfl) ?_ ?_
  · have hu : ∀ u : UInt8, ((u.toNat : Nat) : Int) ≤ 255 := fun u => by have := u.toNat_lt; omega
    refine ⟨⟨h0, by omega⟩, ⟨h0, ?_⟩, ⟨?_, ?_⟩, ?_, ?_⟩
    · have h2 : x < ((256 : Nat) : Int) := h1
      exact h2
    · exact Int.le_trans (by decide) (Int.natCast_nonneg _)
    · exact Int.le_trans (hu _) (by decide)
    · rw [Int.zero_add]; exact Int.le_trans (by decide) (Int.natCast_nonneg _)
    · rw [Int.zero_add]; exact Int.le_trans (hu _) (by decide)
  · repeat' (first | exact trivial | refine eS rfl ?_ | refine ev_out_inv ?_ | refine rX [0, 2, 4, 8, 14] hc ?_ ?_ | (refine rC (fun hcond => ?_) (fun hcond => ?_) <;> try (cases hcond; done)))
    exact ev_finM hc [.tmp 2] rfl (.inl rfl) (.p T3 _) (by simp only [retAV, ret1, retAVs, notAT, resV, resLoad, pureOf, go_sem, Nat.reduceEqDiff, reduceCtorEq, Nat.reduceAdd, Nat.reduceSub, Nat.reduceMul, Nat.reduceLeDiff, Nat.reduceLT, Int.reduceLE, Int.reduceToNat, Int.reduceNeg, ↓reduceIte]; rfl) ⟨⟨_, rfl⟩, rfl⟩
theorem len_ok (x : Int) (h0 : 0 ≤ x) (h1 : x < 256) : CallM Tryz.prog 91 [.p (.int .u64) x] [] [] (fun res objs' => (∃ n : Int, res = .p T3 n) ∧ objs' = []) := by
  refine fnM_ok Tryz.func91 (by kernel_rfl) rfl Tryz.ntmps91 (by simp only [List.length_cons, List.length_nil]; omega) (by kernel_rfl) rfl rfl (tyTab_ok []) fns_nil ?_
  intro w0 K O0 ρ0 hc hok1 hok2
  simp only [argEnv]
  repeat' (first | exact trivial | refine eS rfl ?_ | refine ev_out_inv ?_ | refine rX [0, 2] hc ?_ ?_ | (refine rC (fun hcond => ?_) (fun hcond => ?_) <;> try (cases hcond; done)))
  refine cP 1 hc ?_ ?_
  · trivial
  · refine rM hc (len64_ok x h0 h1) [] [] ?_ ?_ ?_
    · first | exact eN | refine eM ?_
    · first | exact eN | refine eM ?_
    · rintro _ _ ⟨⟨n, rfl⟩, rfl⟩
      refine ⟨[], .p T3 n, [], rfl, rfl, ?_, ?_, rfl, rfl, ?_⟩
      · first | exact eN | refine eM ?_
      · first | exact eN | refine eM ?_
      · refine evLp_all [2] hc (by simp only [go_sem, Nat.reduceEqDiff, reduceCtorEq, Nat.reduceAdd, Nat.reduceSub, Nat.reduceMul, Nat.reduceLeDiff, Nat.reduceLT, Int.reduceLE, Int.reduceToNat, Int.reduceNeg, ↓reduceIte]; rfl) ?_ ?_
        · trivial
        · repeat' (first | exact trivial | refine eS rfl ?_ | refine ev_out_inv ?_ | refine rX [0, 2] hc ?_ ?_ | (refine rC (fun hcond => ?_) (fun hcond => ?_) <;> try (cases hcond; done)))
          exact ev_finM hc [.tmp 2] rfl (.inl rfl) (.p T3 n) (by simp only [retAV, ret1, retAVs, notAT, resV, resLoad, pureOf, go_sem, Nat.reduceEqDiff, reduceCtorEq, Nat.reduceAdd, Nat.reduceSub, Nat.reduceMul, Nat.reduceLeDiff, Nat.reduceLT, Int.reduceLE, Int.reduceToNat, Int.reduceNeg, ↓reduceIte]) ⟨⟨_, rfl⟩, rfl⟩
theorem sortFunc_ok (l : List (Int × Int)) (hl : l.length ≤ 12) (hs : SrtA l) : CallM Tryz.prog 182 [.sr 1000000 T77 0 l.length, .fn 162] [(1000000, .arr 77 T77 l)] [1000000] (fun res objs' => res = .raw (.tuple #[]) ∧ objs' = [(1000000, .arr 77 T77 l)]) := by
  refine fnM_ok Tryz.func182 (by kernel_rfl) rfl Tryz.ntmps182 (by simp only [List.length_cons, List.length_nil]; omega) (by kernel_rfl) rfl rfl (tyTab_ok []) fns_nil ?_
  intro w0 K O0 ρ0 hc hok1 hok2
  simp only [argEnv]
  repeat' (first | exact trivial | refine eS rfl ?_ | refine ev_out_inv ?_ | refine rX [0, 1, 4] hc ?_ ?_ | (refine rC (fun hcond => ?_) (fun hcond => ?_) <;> try (cases hcond; done)))
  refine cP 4 hc ?_ ?_
  · exact eV
  · refine rM hc (len_ok (l.length : Int) (by omega) (by omega)) [] [] ?_ ?_ ?_
    · first | exact eN | refine eM ?_
    · first | exact eN | refine eM ?_
    · rintro _ _ ⟨⟨n, rfl⟩, rfl⟩
      refine ⟨[], .p T3 n, [], rfl, rfl, ?_, ?_, rfl, rfl, ?_⟩
      · first | exact eN | refine eM ?_
      · first | exact eN | refine eM ?_
      · refine evL_seq hc 1 (by simp only [go_sem, Nat.reduceEqDiff, reduceCtorEq, Nat.reduceAdd, Nat.reduceSub, Nat.reduceMul, Nat.reduceLeDiff, Nat.reduceLT, Int.reduceLE, Int.reduceToNat, Int.reduceNeg, ↓reduceIte]; rfl) ?_ ?_
        · trivial
        · refine rM hc (pdq_ok l n hl hs) [(1000000, .nm 1000000)] [] ?_ ?_ ?_
          · first | exact eN | refine eM ?_
          · first | exact eN | refine eM ?_
          · rintro _ _ ⟨rfl, rfl⟩
            refine ⟨[(1000000, .nm 1000000)], .raw (.tuple #[]), [(1000000, .arr 77 T77 l)], rfl, rfl, ?_, ?_, rfl, rfl, evL_end ?_⟩
            · first | exact eN | refine eM ?_
            · first | exact eN | refine eM ?_
            · repeat' (first | exact trivial | refine eS rfl ?_ | refine ev_out_inv ?_ | refine rX [0, 1, 4] hc ?_ ?_ | (refine rC (fun hcond => ?_) (fun hcond => ?_) <;> try (cases hcond; done)))
              exact ev_finM hc [] rfl (.inr rfl) (.raw (.tuple #[])) rfl ⟨rfl, rfl⟩
theorem sortedFunc_ok (l : List (Int × Int)) (hl : l.length ≤ 12) (hs : SrtA l) : CallM Tryz.prog 160 [.clo 183 [1], .fn 162] [(1, .box 43 false [.p T43 l])] [] (fun res objs' => res = .sr 7 T77 0 l.length ∧ objs' = [(7, .arr 77 T77 l)]) := by
  refine fnM_ok Tryz.func160 (by kernel_rfl) rfl Tryz.ntmps160 (by simp only [List.length_cons, List.length_nil]; omega) (by kernel_rfl) rfl rfl (tyTab_ok []) fns_nil ?_
  intro w0 K O0 ρ0 hc hok1 hok2
  simp only [argEnv]
  repeat' (first | exact trivial | refine eS rfl ?_ | refine ev_out_inv ?_ | refine rX [0, 1, 4, 5] hc ?_ ?_ | (refine rC (fun hcond => ?_) (fun hcond => ?_) <;> try (cases hcond; done)))
  refine cP 1 hc ?_ ?_
  · trivial
  · refine rM hc (collect_ok l (by omega)) [(1, .nm 1)] [1] ?_ ?_ ?_
    · first | exact eN | refine eM ?_
    · first | exact eN | refine eM ?_
    · rintro _ _ ⟨rfl, rfl⟩
      refine ⟨[(1000000, .nm 7)], .sr 1000000 T77 0 l.length, [(1000000, .arr 77 T77 l)], rfl, rfl, ?_, ?_, rfl, rfl, ?_⟩
      · first | exact eN | refine eM ?_
      · first | exact eN | refine eM ?_
      · refine evLp_all [1, 5] hc (by simp only [go_sem, Nat.reduceEqDiff, reduceCtorEq, Nat.reduceAdd, Nat.reduceSub, Nat.reduceMul, Nat.reduceLeDiff, Nat.reduceLT, Int.reduceLE, Int.reduceToNat, Int.reduceNeg, ↓reduceIte]; rfl) ?_ ?_
        · trivial
        · repeat' (first | exact trivial | refine eS rfl ?_ | refine ev_out_inv ?_ | refine rX [0, 1, 4, 5] hc ?_ ?_ | (refine rC (fun hcond => ?_) (fun hcond => ?_) <;> try (cases hcond; done)))
          refine cP 2 hc ?_ ?_
          · trivial
          · refine rM hc (sortFunc_ok l hl hs) [(1000000, .nm 1000000)] [] ?_ ?_ ?_
            · first | exact eN | refine eM ?_
            · first | exact eN | refine eM ?_
            · rintro _ _ ⟨rfl, rfl⟩
              refine ⟨[(1000000, .nm 1000000)], .raw (.tuple #[]), [(1000000, .arr 77 T77 l)], rfl, rfl, ?_, ?_, rfl, rfl, evL_end ?_⟩
              · first | exact eN | refine eM ?_
              · first | exact eN | refine eM ?_
              · repeat' (first | exact trivial | refine eS rfl ?_ | refine ev_out_inv ?_ | refine rX [0, 1, 4, 5] hc ?_ ?_ | (refine rC (fun hcond => ?_) (fun hcond => ?_) <;> try (cases hcond; done)))
                refine Ev.ent (σ' := ⟨[(4, .sr 7 T77 0 l.length)], [(7, .arr 77 T77 l)]⟩) ?_ (ent_match [(7, .nm 1000000)] rfl rfl ?_ ?_)
                · exact ev_finM hc [.tmp 4] rfl (.inl rfl) (.sr 7 T77 0 l.length) (by simp only [retAV, ret1, retAVs, notAT, resV, resLoad, pureOf, go_sem, Nat.reduceEqDiff, reduceCtorEq, Nat.reduceAdd, Nat.reduceSub, Nat.reduceMul, Nat.reduceLeDiff, Nat.reduceLT, Int.reduceLE, Int.reduceToNat, Int.reduceNeg, ↓reduceIte]) ⟨rfl, rfl⟩
                · first | exact eN | refine eM ?_
                · first | exact eN | refine eM ?_
end
/- The plain law under graph.canonical: the program's search and the reference's are one, where each node's arcs ascend. -/
section
/-- The search: the nodes in the order in which they are come to. -/
def dfs (f : List GNode) : Nat → List Int → Int → List Int
  | 0, o, _ => o
  | k + 1, o, n => (f.getD n.toNat (0, [])).2.foldl (fun o a => if a.2 ∈ o then o else dfs f k o a.2) (o ++ [n])
def stepD (f : List GNode) (k : Nat) (o : List Int) (a : Int × Int) : List Int := if a.2 ∈ o then o else dfs f k o a.2
theorem dfs_succ (f : List GNode) (k : Nat) (o : List Int) (n : Int) : dfs f (k + 1) o n = (f.getD n.toNat (0, [])).2.foldl (stepD f k) (o ++ [n]) := rfl
structure DOk (f : List GNode) (o : List Int) : Prop where
  nd : o.Nodup
  rng : ∀ x ∈ o, 0 ≤ x ∧ x < (f.length : Int)
theorem DOk.len {f : List GNode} {o : List Int} (h : DOk f o) : o.length ≤ f.length := by
  have h1 : (o.map Int.toNat).Nodup := by
    rw [List.Nodup, List.pairwise_map]
    refine h.nd.imp_of_mem fun {a b} ha hb hne e => hne ?_
    have := h.rng a ha
    have := h.rng b hb
    omega
  have := nodup_len f.length (o.map Int.toNat) h1 (fun j hj => by
    obtain ⟨x, hx, rfl⟩ := List.mem_map.1 hj
    have := h.rng x hx
    omega)
  simpa using this
theorem DOk.snoc {f : List GNode} {o : List Int} (h : DOk f o) {n : Int} (h0 : 0 ≤ n) (h1 : n < f.length) (hn : n ∉ o) : DOk f (o ++ [n]) := by
  refine ⟨?_, fun x hx => ?_⟩
  · rw [List.nodup_append]
    refine ⟨h.nd, by simp, fun a ha b hb => ?_⟩
    have : b = n := by simpa using hb
    subst this
    intro e
    subst e
    exact hn ha
  · rcases List.mem_append.1 hx with hx | hx
    · exact h.rng x hx
    · have : x = n := by simpa using hx
      subst this
      exact ⟨h0, h1⟩
theorem foldD_ok {f : List GNode} {k : Nat} (hv : ∀ (o : List Int) (n : Int), DOk f o → 0 ≤ n → n < f.length → n ∉ o → DOk f (dfs f k o n) ∧ o <+: dfs f k o n) :
    ∀ (l : List (Int × Int)) (o : List Int), (∀ a ∈ l, 0 ≤ a.2 ∧ a.2 < (f.length : Int)) → DOk f o → DOk f (l.foldl (stepD f k) o) ∧ o <+: l.foldl (stepD f k) o
  | [], o, _, h => ⟨h, List.prefix_refl _⟩
  | a :: l, o, hl, h => by
    simp only [List.foldl_cons]
    have hstep : DOk f (stepD f k o a) ∧ o <+: stepD f k o a := by
      unfold stepD
      split
      · exact ⟨h, List.prefix_refl _⟩
      · rename_i hn
        exact hv o a.2 h (hl a (by simp)).1 (hl a (by simp)).2 hn
    obtain ⟨g1, g2⟩ := foldD_ok hv l _ (fun b hb => hl b (by simp [hb])) hstep.1
    exact ⟨g1, hstep.2.trans g2⟩
theorem arcs_in' {f : List GNode} (hf : GoodF f) {n : Int} {a : Int × Int} (ha : a ∈ (f.getD n.toNat (0, [])).2) : 0 ≤ a.2 ∧ a.2 < f.length := by
  by_cases h : n.toNat < f.length
  · have hm : f.getD n.toNat (0, []) ∈ f := by
      rw [List.getD_eq_getElem?_getD, List.getElem?_eq_getElem h]; exact List.getElem_mem h
    exact (hf.2 _ hm).2 a ha
  · rw [List.getD_eq_getElem?_getD, List.getElem?_eq_none (by omega)] at ha
    simp at ha
theorem dfs_ok {f : List GNode} (hf : GoodF f) : ∀ (k : Nat) (o : List Int) (n : Int), DOk f o → 0 ≤ n → n < f.length → n ∉ o → DOk f (dfs f k o n) ∧ o <+: dfs f k o n
  | 0, o, n, h, _, _, _ => ⟨h, List.prefix_refl _⟩
  | k + 1, o, n, h, h0, h1, h2 => by
    obtain ⟨g1, g2⟩ := foldD_ok (dfs_ok hf k) _ _ (fun a ha => arcs_in' hf ha) (h.snoc h0 h1 h2)
    rw [dfs_succ]
    exact ⟨g1, (List.prefix_append o [n]).trans g2⟩
/-- With enough fuel all arcs of what has been come to lead to what has been come to. -/
theorem dfs_closed {f : List GNode} (hf : GoodF f) : ∀ (k : Nat) (o : List Int) (n : Int), DOk f o → 0 ≤ n → n < f.length → n ∉ o → f.length - o.length ≤ k →
    n ∈ dfs f k o n ∧ ∀ x ∈ dfs f k o n, x ∈ o ∨ ∀ a ∈ (f.getD x.toNat (0, [])).2, a.2 ∈ dfs f k o n
  | 0, o, n, h, h0, h1, h2, hk => by
    have := (h.snoc h0 h1 h2).len
    simp only [List.length_append, List.length_singleton] at this
    omega
  | k + 1, o, n, h, h0, h1, h2, hk => by
    have key : ∀ (l : List (Int × Int)) (t : List Int), (∀ a ∈ l, 0 ≤ a.2 ∧ a.2 < (f.length : Int)) → DOk f t → f.length - t.length ≤ k →
        (∀ a ∈ l, a.2 ∈ l.foldl (stepD f k) t) ∧ ∀ x ∈ l.foldl (stepD f k) t, x ∈ t ∨ ∀ a ∈ (f.getD x.toNat (0, [])).2, a.2 ∈ l.foldl (stepD f k) t := by
      intro l
      induction l with
      | nil => exact fun t _ _ _ => ⟨fun a ha => (by cases ha), fun x hx => .inl hx⟩
      | cons a l ih =>
        intro t hl ht hlen
        simp only [List.foldl_cons]
        have hstep : DOk f (stepD f k t a) ∧ t <+: stepD f k t a ∧ a.2 ∈ stepD f k t a ∧ ∀ x ∈ stepD f k t a, x ∈ t ∨ ∀ b ∈ (f.getD x.toNat (0, [])).2, b.2 ∈ stepD f k t a := by
          unfold stepD
          split
          · rename_i hn
            exact ⟨ht, List.prefix_refl _, hn, fun x hx => .inl hx⟩
          · rename_i hn
            have q := hl a (by simp)
            obtain ⟨g1, g2⟩ := dfs_ok hf k t a.2 ht q.1 q.2 hn
            obtain ⟨g3, g4⟩ := dfs_closed hf k t a.2 ht q.1 q.2 hn hlen
            exact ⟨g1, g2, g3, g4⟩
        obtain ⟨g1, g2, g3, g4⟩ := hstep
        have hle := g2.length_le
        obtain ⟨i1, i2⟩ := ih (stepD f k t a) (fun b hb => hl b (by simp [hb])) g1 (by omega)
        obtain ⟨_, j2⟩ := foldD_ok (dfs_ok hf k) l (stepD f k t a) (fun b hb => hl b (by simp [hb])) g1
        refine ⟨fun b hb => ?_, fun x hx => ?_⟩
        · rcases List.mem_cons.1 hb with rfl | hb
          · exact j2.subset g3
          · exact i1 b hb
        · rcases i2 x hx with hx | hx
          · rcases g4 x hx with hx | hx
            · exact .inl hx
            · exact .inr fun b hb => j2.subset (hx b hb)
          · exact .inr hx
    have hs := h.snoc h0 h1 h2
    obtain ⟨g1, g2⟩ := key (f.getD n.toNat (0, [])).2 (o ++ [n]) (fun a ha => arcs_in' hf ha) hs (by simp only [List.length_append, List.length_singleton]; omega)
    obtain ⟨_, g3⟩ := foldD_ok (dfs_ok hf k) (f.getD n.toNat (0, [])).2 (o ++ [n]) (fun a ha => arcs_in' hf ha) hs
    rw [dfs_succ]
    refine ⟨g3.subset (by simp), fun x hx => ?_⟩
    rcases g2 x hx with hx | hx
    · rcases List.mem_append.1 hx with hx | hx
      · exact .inl hx
      · have : x = n := by simpa using hx
        subst this
        exact .inr g1
    · exact .inr hx
/-- A node's number. -/
def idxZ (o : List Int) (x : Int) : Int := if x ∈ o then (o.idxOf x : Int) else 0
def renD (o : List Int) (a : Int × Int) : Int × Int := (a.1, idxZ o a.2)
def nodeD (f : List GNode) (o : List Int) (n : Int) : GNode := ((f.getD n.toNat (0, [])).1, (f.getD n.toNat (0, [])).2.map (renD o))
def canonicalF (f : List GNode) (root : Int) : List GNode := (dfs f f.length [] root).map (nodeD f (dfs f f.length [] root))
/-- Each node's arcs ascend, and are few. -/
def SrtF (f : List GNode) : Prop := ∀ x ∈ f, SrtA x.2 ∧ x.2.length ≤ 12
theorem srt_of {f : List GNode} (hf : SrtF f) (n : Int) : SrtA (f.getD n.toNat (0, [])).2 ∧ (f.getD n.toNat (0, [])).2.length ≤ 12 := by
  by_cases h : n.toNat < f.length
  · have hm : f.getD n.toNat (0, []) ∈ f := by
      rw [List.getD_eq_getElem?_getD, List.getElem?_eq_getElem h]; exact List.getElem_mem h
    exact hf _ hm
  · rw [List.getD_eq_getElem?_getD, List.getElem?_eq_none (by omega)]
    exact ⟨fun i hi => by simp at hi, by simp⟩
theorem sortedF_srt {l : List (Int × Int)} (h : SrtA l) : sortedF l = l := by
  have key : ∀ i, i ≤ l.length → sortedF (l.take i) = l.take i := by
    intro i
    induction i with
    | zero => intro _; rfl
    | succ i ih =>
      intro hi
      rw [take_snoc l (0, 0) (by omega), sortedF_snoc, ih (by omega)]
      have hlen : (l.take i).length = i := by rw [List.length_take]; omega
      have hpos : posF (l.getD i (0, 0)) (l.take i) (l.take i).length = (l.take i).length := by
        rw [hlen]
        cases i with
        | zero => rfl
        | succ i =>
          have h1 := h i (by omega)
          have h2 : (l.take (i + 1)).getD i (0, 0) = l.getD i (0, 0) := by
            simp only [List.getD_eq_getElem?_getD]
            rw [List.getElem?_take]; simp
          simp only [posF]
          rw [h2, if_neg (by omega)]
      unfold insF
      rw [hpos, List.take_length, List.drop_length, List.append_nil]
  have := key l.length (Nat.le_refl _)
  rwa [List.take_length] at this
structure NumOk (f : List GNode) (num o : List Int) : Prop where
  len : num.length = f.length
  get : ∀ j, j < f.length → num.getD j 0 = if (j : Int) ∈ o then (o.idxOf (j : Int) : Int) else -1
theorem NumOk.neg {f : List GNode} {num o : List Int} (h : NumOk f num o) {n : Int} (h0 : 0 ≤ n) (h1 : n < f.length) : num.getD n.toNat 0 < 0 ↔ n ∉ o := by
  have := h.get n.toNat (by omega)
  rw [show ((n.toNat : Nat) : Int) = n by omega] at this
  rw [this]
  split
  · rename_i hm
    constructor
    · intro e; omega
    · intro e; exact absurd hm e
  · rename_i hm
    exact ⟨fun _ => hm, fun _ => by omega⟩
theorem idxOf_mem {o : List Int} {x n : Int} (h : x ∈ o) : (o ++ [n]).idxOf x = o.idxOf x := by rw [List.idxOf_append, if_pos h]
theorem idxOf_new {o : List Int} {n : Int} (h : n ∉ o) : (o ++ [n]).idxOf n = o.length := by rw [List.idxOf_append, if_neg h]; simp
theorem NumOk.snoc {f : List GNode} {num o : List Int} (h : NumOk f num o) {n : Int} (h0 : 0 ≤ n) (h1 : n < f.length) (hn : n ∉ o) : NumOk f (num.set n.toNat (o.length : Int)) (o ++ [n]) := by
  refine ⟨by simpa using h.len, fun j hj => ?_⟩
  have hj' : j < num.length := by rw [h.len]; exact hj
  by_cases e : j = n.toNat
  · subst e
    have en : ((n.toNat : Nat) : Int) = n := by omega
    rw [en]
    simp only [List.getD_eq_getElem?_getD]
    rw [List.getElem?_set_self hj', if_pos (by simp), idxOf_new hn]
    simp
  · have en : ¬ (j : Int) = n := by omega
    simp only [List.getD_eq_getElem?_getD]
    rw [List.getElem?_set_ne (fun e' => e e'.symm)]
    have := h.get j hj
    simp only [List.getD_eq_getElem?_getD] at this
    rw [this]
    by_cases hm : (j : Int) ∈ o
    · rw [if_pos hm, if_pos (by simp [hm]), idxOf_mem hm]
    · rw [if_neg hm, if_neg (by simp [hm, en])]
theorem visitF_dfs {f : List GNode} (hf : GoodF f) (hs : SrtF f) : ∀ (k : Nat) (s : List Int × List Int) (n : Int), NumOk f s.1 s.2 → DOk f s.2 → 0 ≤ n → n < f.length → n ∉ s.2 → (visitF f k s n).2 = dfs f k s.2 n ∧ NumOk f (visitF f k s n).1 (visitF f k s n).2
  | 0, s, n, h, _, _, _, _ => ⟨rfl, h⟩
  | k + 1, s, n, h, hd, h0, h1, h2 => by
    have key : ∀ (l : List (Int × Int)) (t : List Int × List Int), (∀ a ∈ l, 0 ≤ a.2 ∧ a.2 < (f.length : Int)) → NumOk f t.1 t.2 → DOk f t.2 → (l.foldl (stepV f k) t).2 = l.foldl (stepD f k) t.2 ∧ NumOk f (l.foldl (stepV f k) t).1 (l.foldl (stepV f k) t).2 := by
      intro l
      induction l with
      | nil => exact fun t _ ht _ => ⟨rfl, ht⟩
      | cons a l ih =>
        intro t hl ht htd
        simp only [List.foldl_cons]
        have q := hl a (by simp)
        have hq := ht.neg q.1 q.2
        have hstep : (stepV f k t a).2 = stepD f k t.2 a ∧ NumOk f (stepV f k t a).1 (stepV f k t a).2 ∧ DOk f (stepV f k t a).2 := by
          unfold stepV stepD
          by_cases hm : a.2 ∈ t.2
          · rw [if_pos hm, if_neg (by rw [hq]; exact fun e => e hm)]
            exact ⟨rfl, ht, htd⟩
          · rw [if_neg hm, if_pos (by rw [hq]; exact hm)]
            obtain ⟨g1, g2⟩ := visitF_dfs hf hs k t a.2 ht htd q.1 q.2 hm
            exact ⟨g1, g2, by rw [g1]; exact (dfs_ok hf k t.2 a.2 htd q.1 q.2 hm).1⟩
        obtain ⟨g1, g2, g3⟩ := hstep
        obtain ⟨i1, i2⟩ := ih (stepV f k t a) (fun b hb => hl b (by simp [hb])) g2 g3
        rw [g1] at i1
        exact ⟨i1, i2⟩
    rw [visitF_succ, dfs_succ, sortedF_srt (srt_of hs n).1]
    exact key _ (s.1.set n.toNat (s.2.length : Int), s.2 ++ [n]) (fun a ha => arcs_in' hf ha) (h.snoc h0 h1 h2) (hd.snoc h0 h1 h2)
/-- The reference's canonical form is the program's. -/
theorem from_canonical {f : List GNode} (hf : GoodF f) (hs : SrtF f) {root : Int} (h0 : 0 ≤ root) (h1 : root < f.length) : fromF f root = canonicalF f root := by
  have hn0 : NumOk f (List.replicate f.length (-1)) [] := ⟨by simp, fun j hj => by simp [List.getD_eq_getElem?_getD, List.getElem?_replicate, hj]⟩
  have hd0 : DOk f [] := ⟨by simp, fun x hx => by cases hx⟩
  obtain ⟨g1, g2⟩ := visitF_dfs hf hs f.length (List.replicate f.length (-1), []) root hn0 hd0 h0 h1 (by simp)
  have g1 : (travF f root).2 = dfs f f.length [] root := g1
  have g2 : NumOk f (travF f root).1 (travF f root).2 := g2
  have hc := (dfs_closed hf f.length [] root hd0 h0 h1 (by simp) (by simp)).2
  have ho := (dfs_ok hf f.length [] root hd0 h0 h1 (by simp)).1
  unfold fromF canonicalF
  rw [g1] at g2 ⊢
  generalize dfs f f.length [] root = o at *
  refine List.map_congr_left fun x hx => ?_
  unfold nodeF nodeD
  rw [sortedF_srt (srt_of hs x).1]
  refine congrArg _ (List.map_congr_left fun a ha => ?_)
  unfold renA renD idxZ
  have hin : a.2 ∈ o := by
    rcases hc x hx with hx' | hx'
    · cases hx'
    · exact hx' a ha
  have hr := arcs_in' hf ha
  have := g2.get a.2.toNat (by omega)
  rw [show ((a.2.toNat : Nat) : Int) = a.2 by omega] at this
  rw [this, if_pos hin, if_pos hin]
/-! The program's map of numbers -/
def mOf (o : List Int) : List (Int × Int) := (List.range o.length).map fun i => (o.getD i 0, (i : Int))
theorem mOf_snoc (o : List Int) (n : Int) : mOf (o ++ [n]) = mOf o ++ [(n, (o.length : Int))] := by
  unfold mOf
  rw [List.length_append, List.length_singleton, List.range_succ, List.map_append]
  congr 1
  · refine List.map_congr_left fun i hi => ?_
    have : i < o.length := List.mem_range.1 hi
    simp only [List.getD_eq_getElem?_getD]
    rw [List.getElem?_append_left this]
  · simp [List.getD_eq_getElem?_getD]
theorem mfind_app (k : Int) (a b : List (Int × Int)) : mfind T3 T3 k (a ++ b) = (mfind T3 T3 k a).or (mfind T3 T3 k b) := by
  induction a with
  | nil => rfl
  | cons x a ih =>
    simp only [List.cons_append, mfind]
    split
    · rfl
    · exact ih
theorem list_snoc_ind {α : Type} {p : List α → Prop} (h0 : p []) (h1 : ∀ l a, p l → p (l ++ [a])) (l : List α) : p l := by
  have : ∀ n (l : List α), l.length = n → p l := by
    intro n
    induction n with
    | zero => intro l hl; rw [List.length_eq_zero_iff.1 hl]; exact h0
    | succ n ih =>
      intro l hl
      have hne : l ≠ [] := by intro e; subst e; simp at hl
      rw [← List.dropLast_concat_getLast hne]
      exact h1 _ _ (ih _ (by simp [hl]))
  exact this _ l rfl
theorem mfind_mOf (o : List Int) (x : Int) : mfind T3 T3 x (mOf o) = if x ∈ o then some (o.idxOf x : Int) else none := by
  induction o using list_snoc_ind with
  | h0 => rfl
  | h1 o n ih =>
    rw [mOf_snoc, mfind_app, ih]
    by_cases hx : x ∈ o
    · rw [if_pos hx, if_pos (by simp [hx]), idxOf_mem hx]; rfl
    · rw [if_neg hx]
      by_cases hn : x = n
      · subst hn
        rw [if_pos (by simp), idxOf_new hx]
        simp [mfind, eqT]
      · rw [if_neg (by simp [hx, hn])]
        have : ((x == n) = true) ↔ False := by simp [hn]
        simp [mfind, eqT, hn]
theorem mput_none (k v : Int) (l : List (Int × Int)) (h : mfind T3 T3 k l = none) : mput T3 T3 k v l = l ++ [(k, v)] := by
  induction l with
  | nil => rfl
  | cons x l ih =>
    simp only [mfind] at h
    simp only [mput, List.cons_append]
    split at h
    · cases h
    · rename_i hne
      rw [if_neg hne, ih h]
theorem mput_mOf {o : List Int} {n : Int} (hn : n ∉ o) : mput T3 T3 n (o.length : Int) (mOf o) = mOf (o ++ [n]) := by
  rw [mput_none _ _ _ (by rw [mfind_mOf, if_neg hn]), mOf_snoc]
theorem idxZ_eq (o : List Int) (x : Int) : (mfind T3 T3 x (mOf o)).getD 0 = idxZ o x := by
  rw [mfind_mOf]
  unfold idxZ
  split <;> rfl
theorem isSome_mOf (o : List Int) (x : Int) : (mfind T3 T3 x (mOf o)).isSome = decide (x ∈ o) := by
  rw [mfind_mOf]
  split <;> simp [*]
end
/- Functions of graph: canonical's search. -/
section
/-- The search's objects. -/
def vObjs (f : List GNode) (o : List Int) : List (Nat × Obj) := [(1, .box 26 false [.sr 5 T3 0 o.length]), (2, .box 212 false [.mp 6]), (3, .box 25 true [.p T23 f]), (4, .box 181 false [.clo 159 [1, 2, 3, 4]]), (5, .arr 3 T3 o), (6, .mapo T3 T3 (mOf o))]
theorem visitM_ok (f : List GNode) (hf : GoodF f) (hs : SrtF f) : ∀ (k : Nat) (o : List Int) (n : Int), DOk f o → 0 ≤ n → n < f.length → n ∉ o → f.length - o.length ≤ k →
    CallM Tryz.prog 159 [.p T3 n, .bp 1 [] 0, .bp 2 [] 0, .bp 3 [] 0, .bp 4 [] 0] (vObjs f o) [1, 2, 3, 4, 6] (fun res objs' => res = .raw (.tuple #[]) ∧ objs' = vObjs f (dfs f k o n)) := by
  intro k
  induction k with
  | zero =>
    intro o n h0 h1 h2 h3 h4
    have := (h0.snoc h1 h2 h3).len
    simp only [List.length_append, List.length_singleton] at this
    omega
  | succ k ih =>
    intro o n hd hn0 hn1 hno hk
    have hd1 := hd.snoc hn0 hn1 hno
    have hlen := hd1.len
    simp only [List.length_append, List.length_singleton] at hlen
    have hfl := hf.1
    refine fnM_ok Tryz.func159 (by kernel_rfl) rfl Tryz.ntmps159 (by simp only [List.length_cons, List.length_nil]; omega) (by kernel_rfl) rfl rfl (tyTab_ok []) fns_nil ?_
    intro w0 K O0 ρ0 hc hok1 hok2
    simp only [vObjs, argEnv]
    repeat' (first | exact trivial | refine eS rfl ?_ | refine ev_out_inv ?_ | refine rX [0, 1, 2, 3, 4, 7, 9, 25, 26, 27, 28, 39] hc ?_ ?_ | (refine rC (fun hcond => ?_) (fun hcond => ?_) <;> try (cases hcond; done)))
    · simp only [maxN]; omega
    · rw [mput_mOf hno]
      obtain ⟨hsrt, hl12⟩ := srt_of hs n
      have harcs := fun a (ha : a ∈ (f.getD n.toNat (0, [])).2) => arcs_in' hf ha
      have hdfs : dfs f (k + 1) o n = (f.getD n.toNat (0, [])).2.foldl (stepD f k) (o ++ [n]) := dfs_succ f k o n
      refine cP 6 hc ?_ ?_
      · exact ⟨hn0, hn1⟩
      · generalize (f.getD n.toNat (0, [])).2 = L at *
        refine rM hc (values_ok L) [] [] ?_ ?_ ?_
        · first | exact eN | refine eM ?_
        · first | exact eN | refine eM ?_
        · rintro _ _ ⟨rfl, rfl⟩
          refine ⟨[(50, .nm 1)], .clo 183 [50], [(50, .box 43 false [.p T43 L])], rfl, rfl, ?_, ?_, rfl, rfl, ?_⟩
          · first | exact eN | refine eM ?_
          · first | exact eN | refine eM ?_
          · refine rM hc (sortedFunc_ok L hl12 hsrt) [(1, .nm 50)] [50] ?_ ?_ ?_
            · first | exact eN | refine eM ?_
            · first | exact eN | refine eM ?_
            · rintro _ _ ⟨rfl, rfl⟩
              refine ⟨[(51, .nm 7)], .sr 51 T77 0 L.length, [(51, .arr 77 T77 L)], rfl, rfl, ?_, ?_, rfl, rfl, ?_⟩
              · first | exact eN | refine eM ?_
              · first | exact eN | refine eM ?_
              · refine evLp_all [0, 1, 2, 3, 4, 25, 26, 27] hc (by simp only [go_sem, Nat.reduceEqDiff, reduceCtorEq, Nat.reduceAdd, Nat.reduceSub, Nat.reduceMul, Nat.reduceLeDiff, Nat.reduceLT, Int.reduceLE, Int.reduceToNat, Int.reduceNeg, ↓reduceIte]; rfl) ?_ ?_
                · trivial
                · have hs1 : ∀ i, DOk f ((L.take i).foldl (stepD f k) (o ++ [n])) ∧ o ++ [n] <+: (L.take i).foldl (stepD f k) (o ++ [n]) := fun i => foldD_ok (dfs_ok hf k) _ _ (fun a ha => harcs a (List.mem_of_mem_take ha)) hd1
                  generalize ho1 : o ++ [n] = o1 at *
                  have hol : o1.length = o.length + 1 := by rw [← ho1]; simp
                  rw [← hol]
                  repeat' (first | exact trivial | refine eS rfl ?_ | refine ev_out_inv ?_ | refine rX [0, 1, 2, 3, 4, 7, 9, 25, 26, 27, 28, 39] hc ?_ ?_ | (refine rC (fun hcond => ?_) (fun hcond => ?_) <;> try (cases hcond; done)))
                  refine ev_loop (ι := {i : Nat // i ≤ L.length}) (fun i => ⟨[(0, .p T3 n), (1, .bp 1 [] 0), (2, .bp 2 [] 0), (3, .bp 3 [] 0), (4, .bp 4 [] 0), (25, .p T43 L), (26, .p (.int .i64) (L.length : Int)), (27, .p (.int .i64) (i.1 : Int))], vObjs f ((L.take i.1).foldl (stepD f k) o1)⟩) (fun i => L.length - i.1) ⟨0, by omega⟩ (ent_frz [51] (by simp only [go_sem, Nat.reduceEqDiff, reduceCtorEq, Nat.reduceAdd, Nat.reduceSub, Nat.reduceMul, Nat.reduceLeDiff, Nat.reduceLT, Int.reduceLE, Int.reduceToNat, Int.reduceNeg, ↓reduceIte]; rfl) (ent_match [(1, .nm 1), (2, .nm 2), (3, .nm 3), (4, .nm 4), (5, .nm 5), (6, .nm 6)] rfl rfl ?_ ?_)) (fun i => ?_)
                  · simp only [vObjs, List.take_zero, List.foldl_nil]
                    first | exact eN | refine eM ?_
                  · first | exact eN | refine eM ?_
                  · obtain ⟨i, hi⟩ := i
                    obtain ⟨hdi, hpi⟩ := hs1 i
                    have hnext := fun (h : i < L.length) => fold_take (stepD f k) L (0, 0) o1 h
                    have hlei := hpi.length_le
                    generalize hoi : (L.take i).foldl (stepD f k) o1 = oi at hdi hpi hnext hlei
                    simp only [vObjs]
                    repeat' (first | exact trivial | refine eS rfl ?_ | refine ev_out_inv ?_ | refine rX [0, 1, 2, 3, 4, 7, 9, 25, 26, 27, 28, 39] hc ?_ ?_ | (refine rC (fun hcond => ?_) (fun hcond => ?_) <;> try (cases hcond; done)))
                    · exact eV
                    · have hiL : i < L.length := by exact eV
                      have hr := harcs _ (mem_of_take_succ L (0, 0) hiL)
                      have hno2 : (L.getD i (0, 0)).2 ∉ oi := by rw [isSome_mOf] at hcond; simpa using hcond
                      refine cP 3 hc ?_ ?_
                      · trivial
                      · refine rM hc (ih oi (L.getD i (0, 0)).2 hdi hr.1 hr.2 hno2 (by omega)) [(1, .nm 1), (2, .nm 2), (3, .nm 3), (4, .nm 4), (5, .nm 5), (6, .nm 6)] [5] ?_ ?_ ?_
                        · first | exact eN | refine eM ?_
                        · simp only [vObjs]
                          first | exact eN | refine eM ?_
                        · rintro _ _ ⟨rfl, rfl⟩
                          refine ⟨[(1, .nm 1), (2, .nm 2), (3, .nm 3), (4, .nm 4), (5, .nm 5), (6, .nm 6)], .raw (.tuple #[]), vObjs f (dfs f k oi (L.getD i (0, 0)).2), rfl, rfl, ?_, ?_, rfl, rfl, evL_end ?_⟩
                          · simp only [vObjs]
                            first | exact eN | refine eM ?_
                          · first | exact eN | refine eM ?_
                          · simp only [vObjs]
                            repeat' (first | exact trivial | refine eS rfl ?_ | refine ev_out_inv ?_ | refine rX [0, 1, 2, 3, 4, 7, 9, 25, 26, 27, 28, 39] hc ?_ ?_ | (refine rC (fun hcond => ?_) (fun hcond => ?_) <;> try (cases hcond; done)))
                            · exact eV
                            · have e : stepD f k oi (L.getD i (0, 0)) = dfs f k oi (L.getD i (0, 0)).2 := if_neg hno2
                              refine ⟨⟨i + 1, by omega⟩, by simp only; omega, ent_match [(1, .nm 1), (2, .nm 2), (3, .nm 3), (4, .nm 4), (5, .nm 5), (6, .nm 6)] rfl rfl ?_ ?_⟩
                              · simp only [hnext hiL, e]
                                first | exact eN | refine eM ?_
                              · first | exact eN | refine eM ?_
                    · exact eV
                    · have hiL : i < L.length := by exact eV
                      have hno2 : (L.getD i (0, 0)).2 ∈ oi := by rw [isSome_mOf] at hcond; simpa using hcond
                      have e : stepD f k oi (L.getD i (0, 0)) = oi := if_pos hno2
                      refine ⟨⟨i + 1, by omega⟩, by simp only; omega, ent_match [(1, .nm 1), (2, .nm 2), (3, .nm 3), (4, .nm 4), (5, .nm 5), (6, .nm 6)] rfl rfl ?_ ?_⟩
                      · simp only [hnext hiL, e]
                        first | exact eN | refine eM ?_
                      · first | exact eN | refine eM ?_
                    · have hk : L.take i = L := List.take_of_length_le (by exact eV)
                      rw [hk] at hoi
                      rw [hdfs, hoi]
                      exact ev_finM hc [] rfl (.inr rfl) (.raw (.tuple #[])) rfl ⟨rfl, rfl⟩
end
/- Functions of graph: canonical, Sub. -/
section
def canonicalS : Spec := { ins := [T25, T3], pre := fun (f, n, _) => GoodF f ∧ SrtF f ∧ 0 ≤ n ∧ n < (List.length f : Int), out := fun (f, n, _) => [.p T25 (canonicalF f n)] }
attribute [local go_sem] canonicalS
theorem fill_step {α β : Type} (g : α → β) (o : List α) (d : α) (z : β) {i : Nat} (h : i < o.length) : ((o.take i).map g ++ List.replicate (o.length - i) z).set i (g (o.getD i d)) = (o.take (i + 1)).map g ++ List.replicate (o.length - (i + 1)) z := by
  obtain ⟨m, hm⟩ : ∃ m, o.length - i = m + 1 := ⟨o.length - i - 1, by omega⟩
  have hm2 : o.length - (i + 1) = m := by omega
  have hl : ((o.take i).map g).length = i := by rw [List.length_map, List.length_take]; omega
  rw [hm, hm2, List.set_append_right _ _ (by omega), hl, Nat.sub_self, List.replicate_succ, List.set_cons_zero, take_snoc o d h, List.map_append]
  simp
theorem canonical_ok : FnOk Tryz.prog 111 canonicalS := by
  refine fn_ok Tryz.func111 (by kernel_rfl) rfl Tryz.ntmps111 (by decide) (by kernel_rfl) (tyTab_ok []) fns_nil ?_
  rintro w0 O0 ⟨f, root, u⟩ hc - ⟨hf, hs, hr0, hr1⟩
  simp only [canonicalS, entEnv]
  have hfl := hf.1
  have hd0 : DOk f [] := ⟨by simp, fun x hx => by cases hx⟩
  obtain ⟨hdo, hpo⟩ := dfs_ok hf f.length [] root hd0 hr0 hr1 (by simp)
  have hcan : canonicalF f root = (dfs f f.length [] root).map (nodeD f (dfs f f.length [] root)) := rfl
  rw [hcan]
  repeat' (first | exact trivial | refine eS rfl ?_ | refine ev_out_inv ?_ | refine rX [0, 1, 2, 4, 5, 6, 7, 8, 9, 10, 11, 12, 22, 23, 24, 25, 38, 39, 40] hc ?_ ?_ | (refine rC (fun hcond => ?_) (fun hcond => ?_) <;> try (cases hcond; done)))
  refine cP 2 hc ?_ ?_
  · trivial
  · refine rM hc (visitM_ok f hf hs (List.length f) [] root hd0 hr0 hr1 (by simp) (by simp)) [(1, .nm 6), (2, .nm 5), (3, .nm 2), (4, .nm 7), (5, .nil), (6, .nm 13)] [] ?_ ?_ ?_
    · first | exact eN | refine eM ?_
    · simp only [vObjs]
      first | exact eN | refine eM ?_
      rfl
    · rintro _ _ ⟨rfl, rfl⟩
      refine ⟨[(6, .nm 1), (5, .nm 2), (2, .nm 3), (7, .nm 4), (101, .nm 5), (13, .nm 6)], .raw (.tuple #[]), [(6, .box 26 false [.sr 101 T3 0 (dfs f (List.length f) [] root).length]), (5, .box 212 false [.mp 13]), (2, .box 25 true [.p T23 f]), (7, .box 181 false [.clo 159 [6, 5, 2, 7]]), (101, .arr 3 T3 (dfs f (List.length f) [] root)), (13, .mapo T3 T3 (mOf (dfs f (List.length f) [] root)))], rfl, rfl, ?_, ?_, rfl, rfl, evL_end ?_⟩
      · simp only [vObjs]
        first | exact eN | refine eM ?_
      · first | exact eN | refine eM ?_
      · generalize dfs f (List.length f) [] root = o at *
        have hol := hdo.len
        repeat' (first | exact trivial | refine eS rfl ?_ | refine ev_out_inv ?_ | refine rX [0, 1, 2, 4, 5, 6, 7, 8, 9, 10, 11, 12, 22, 23, 24, 25, 38, 39, 40] hc ?_ ?_ | (refine rC (fun hcond => ?_) (fun hcond => ?_) <;> try (cases hcond; done)))
        · simp only [maxN]; omega
        · refine ev_loop (ι := {i : Nat // i ≤ o.length}) (fun i => ⟨[(2, .bp 2 [] 0), (4, .bp 4 [] 0), (5, .bp 5 [] 0), (8, .bp 8 [] 0), (22, .sr 101 T3 0 o.length), (23, .p (.int .i64) (o.length : Int)), (24, .p (.int .i64) (i.1 : Int))], [(8, .box 25 true [.sr 20 T45 0 o.length]), (20, .arr 45 T45 ((o.take i.1).map (nodeD f o) ++ List.replicate (o.length - i.1) (0, []))), (5, .box 212 false [.mp 13]), (2, .box 25 true [.p T23 f]), (101, .arr 3 T3 o), (13, .mapo T3 T3 (mOf o)), (4, .box 25 true [.raw (.slice none 0 0)])]⟩) (fun i => o.length - i.1) ⟨0, by omega⟩ (ent_match [(8, .nm 8), (20, .nm 20), (5, .nm 5), (2, .nm 2), (101, .nm 101), (13, .nm 13), (4, .nm 4)] rfl rfl ?_ ?_) (fun i => ?_)
          · first | exact eN | refine eM ?_
          · first | exact eN | refine eM ?_
          · obtain ⟨i, hi⟩ := i
            repeat' (first | exact trivial | refine eS rfl ?_ | refine ev_out_inv ?_ | refine rX [0, 1, 2, 4, 5, 6, 7, 8, 9, 10, 11, 12, 22, 23, 24, 25, 38, 39, 40] hc ?_ ?_ | (refine rC (fun hcond => ?_) (fun hcond => ?_) <;> try (cases hcond; done)))
            · exact eV
            · have hio : i < o.length := by exact eV
              have hn := hdo.rng _ (mem_of_take_succ o 0 hio)
              have hnode : nodeD f o (o.getD i 0) = ((f.getD (o.getD i 0).toNat (0, [])).1, (f.getD (o.getD i 0).toNat (0, [])).2.map (renD o)) := rfl
              obtain ⟨hsrt, hl12⟩ := srt_of hs (o.getD i 0)
              refine cP 6 hc ?_ ?_
              · exact hn
              · have hne : List.length f ≤ 100000 := hfl
                generalize hnn : o.getD i 0 = n at *
                generalize hfx : f.getD n.toNat (0, []) = x at *
                obtain ⟨xt, L⟩ := x
                simp only at hsrt hl12 hnode
                refine rM hc (values_ok L) [] [] ?_ ?_ ?_
                · first | exact eN | refine eM ?_
                · first | exact eN | refine eM ?_
                · rintro _ _ ⟨rfl, rfl⟩
                  refine ⟨[(50, .nm 1)], .clo 183 [50], [(50, .box 43 false [.p T43 L])], rfl, rfl, ?_, ?_, rfl, rfl, ?_⟩
                  · first | exact eN | refine eM ?_
                  · first | exact eN | refine eM ?_
                  · refine rM hc (sortedFunc_ok L hl12 hsrt) [(1, .nm 50)] [50] ?_ ?_ ?_
                    · first | exact eN | refine eM ?_
                    · first | exact eN | refine eM ?_
                    · rintro _ _ ⟨rfl, rfl⟩
                      refine ⟨[(51, .nm 7)], .sr 51 T77 0 L.length, [(51, .arr 77 T77 L)], rfl, rfl, ?_, ?_, rfl, rfl, ?_⟩
                      · first | exact eN | refine eM ?_
                      · first | exact eN | refine eM ?_
                      · refine evLp_all [2, 4, 5, 8, 9, 10, 11, 22, 23, 24] hc (by simp only [go_sem, Nat.reduceEqDiff, reduceCtorEq, Nat.reduceAdd, Nat.reduceSub, Nat.reduceMul, Nat.reduceLeDiff, Nat.reduceLT, Int.reduceLE, Int.reduceToNat, Int.reduceNeg, ↓reduceIte]; rfl) ?_ ?_
                        · trivial
                        · repeat' (first | exact trivial | refine eS rfl ?_ | refine ev_out_inv ?_ | refine rX [0, 1, 2, 4, 5, 6, 7, 8, 9, 10, 11, 12, 22, 23, 24, 25, 38, 39, 40] hc ?_ ?_ | (refine rC (fun hcond => ?_) (fun hcond => ?_) <;> try (cases hcond; done)))
                          refine ev_loop (ι := {k : Nat // k ≤ L.length}) (fun k => ⟨[(2, .bp 2 [] 0), (4, .bp 4 [] 0), (5, .bp 5 [] 0), (8, .bp 8 [] 0), (9, .p (.int .i64) (i : Int)), (10, .p T3 n), (11, .sr 51 T77 0 L.length), (22, .sr 101 T3 0 o.length), (23, .p (.int .i64) (o.length : Int)), (24, .p (.int .i64) (i : Int)), (38, .p (.int .i64) (L.length : Int)), (39, .p (.int .i64) (k.1 : Int))], [(51, .arr 77 T77 ((L.take k.1).map (renD o) ++ L.drop k.1)), (8, .box 25 true [.sr 20 T45 0 o.length]), (20, .arr 45 T45 ((o.take i).map (nodeD f o) ++ List.replicate (o.length - i) (0, []))), (5, .box 212 false [.mp 13]), (2, .box 25 true [.p T23 f]), (101, .arr 3 T3 o), (13, .mapo T3 T3 (mOf o)), (4, .box 25 true [.raw (.slice none 0 0)])]⟩) (fun k => L.length - k.1) ⟨0, by omega⟩ (ent_match [(51, .nm 51), (8, .nm 8), (20, .nm 20), (5, .nm 5), (2, .nm 2), (101, .nm 101), (13, .nm 13), (4, .nm 4)] rfl rfl ?_ ?_) (fun k => ?_)
                          · first | exact eN | refine eM ?_
                          · first | exact eN | refine eM ?_
                          · obtain ⟨k, hk⟩ := k
                            repeat' (first | exact trivial | refine eS rfl ?_ | refine ev_out_inv ?_ | refine rX [0, 1, 2, 4, 5, 6, 7, 8, 9, 10, 11, 12, 22, 23, 24, 25, 38, 39, 40] hc ?_ ?_ | (refine rC (fun hcond => ?_) (fun hcond => ?_) <;> try (cases hcond; done)))
                            · exact eV
                            · exact eV
                            · have hkL : k < L.length := by exact eV
                              have e := map_part (renD o) (fun b => b) L (0, 0) hkL (renD o)
                              refine ⟨⟨k + 1, by omega⟩, by simp only; omega, ent_match [(51, .nm 51), (8, .nm 8), (20, .nm 20), (5, .nm 5), (2, .nm 2), (101, .nm 101), (13, .nm 13), (4, .nm 4)] rfl rfl ?_ ?_⟩
                              · first | exact eN | refine eM ?_
                                rw [e.2]
                                rw [← e.1]
                                unfold renD
                                rw [← idxZ_eq]
                              · first | exact eN | refine eM ?_
                            · exact ⟨hn, by exact eV⟩
                            · exact eV
                            · have hkL : L.take k = L := List.take_of_length_le (by exact eV)
                              have hdL : L.drop k = [] := List.drop_eq_nil_of_le (by exact eV)
                              refine ⟨⟨i + 1, by omega⟩, by simp only; omega, ent_match [(8, .nm 8), (20, .nm 20), (5, .nm 5), (2, .nm 2), (101, .nm 101), (13, .nm 13), (4, .nm 4)] rfl rfl ?_ ?_⟩
                              · first | exact eN | refine eM ?_
                                rw [hkL, hdL, List.append_nil]
                                have e := fill_step (nodeD f o) o 0 (0, []) hio
                                rw [hnn, hnode] at e
                                rw [← e, hfx, List.take_of_length_le (by simp : (L.map (renD o)).length ≤ L.length)]
                              · first | exact eN | refine eM ?_
            · have hk : o.take i = o := List.take_of_length_le (by exact eV)
              have hz : o.length - i = 0 := by exact eV
              rw [hk, hz]
              exact ev_fin hc [.cell 4 25] rfl (.inl rfl) (by simp) (by simp only [List.replicate_zero, List.append_nil]; first | exact eR | refine eRM ?_; exact List.take_of_length_le (by rw [List.length_map]; exact eV))
def subS : Spec := canonicalS
theorem sub_ok : FnOk Tryz.prog 75 canonicalS := by
  refine fn_ok Tryz.func75 (by kernel_rfl) rfl Tryz.ntmps75 (by decide) (by kernel_rfl) (tyTab_ok [(111, canonicalS)]) (fns_cons canonical_ok fns_nil) ?_
  rintro w0 O0 ⟨f, root, u⟩ hc - hp
  simp only [canonicalS, entEnv]
  repeat' (first | exact trivial | refine eS rfl ?_ | refine ev_out_inv ?_ | refine rX [0, 1, 2, 4] hc ?_ ?_ | (refine rC (fun hcond => ?_) (fun hcond => ?_) <;> try (cases hcond; done)))
  · exact hp
  · exact ev_fin hc [.cell 4 25] rfl (.inl rfl) (by simp) (by first | exact eR | refine eRM ?_)
end
end Go.Proofs.YtpikphnjpldoiaaGreat.Fw
