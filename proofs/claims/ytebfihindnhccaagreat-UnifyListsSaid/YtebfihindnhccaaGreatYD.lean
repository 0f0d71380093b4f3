/- Contracts of the program's and the reference's functions, and the plain laws of what they compute: U13 H1 H4 V14 LC H2 U15 U16 H5 L9 L10. -/
/- Functions of unify: Unify. -/
import Derived.Test.YtebfihindnhccaaGreatYC
import Derived.Test.YtebfihindnhccaaGreatYB
import Derived.Test.YtebfihindnhccaaGreatYA
set_option linter.unusedVariables false
set_option linter.unusedSimpArgs false
namespace Go.Proofs.YtebfihindnhccaaGreat.Fw
open Go
attribute [local irreducible] Ev
attribute [local go_sem] cx_tb entEnv List.toList_toArray evSeq evG evK vcK guardOf guardT guardB_true guardB_false step1 step0 stepQ takesIn namesParts namesOf namesStore frzAll frz frz1 fixN frzEnv frzObjs drpEnv drpObjs AV.frz AV.frzs AV.drp AV.drps AV.names AV.namess aq qmap qPick qAlloc qBox qBuild qBuildSlice qBuildSlice2 qLoad qLoadB qLoadB2 qLoadE qLoadE2 qLoadE3 qFieldI qOff qPart qField qIndexA qIndex qIndexS qNil qBin qUn qConv qMake qMake2 qSlice qExtract qLen qAppend qAppend2 qAppend3 qMin qMax qCall qCall2 qCall3 qBuiltin qCallee aloud lStoreD lStore lStoreB lStoreB2 lStoreE lStoreE3 lStoreE4 namesStore isNest asA ninT qLoadN qBuildS qNest1 qNest2 qNest3 lNin2 lNin3 lNin4 lBackS lBack2 lBack3 lJoin lJoin2 lJoin3 lNew lNew2 lNew3 AV.trn AV.trns trnEnv trnObjs Obj.trn appN2 stoN lCallee lBuiltin lAppend lAppend2 lAppend3 lAppend4 opv lk constAV optAV sliceQ bin binI binS binB boolT zf1 zfs pfs AV.cells nthOff loadB offB storeB notAg fitsT fitsO Ty.cell1 fieldOk partsT partsAg argsT asT asT1 asTs pairO srT castTo_self getF setF getP setP offP offF fldT rvAV rvObj rvAVs rvObjs resAV RV.flat Ty.flat Ty.size St.add upd del fresh Value.oneCell' refZ Ty.dflt sub_all sub_one sub_take sub_end List.take_succ_cons List.take_zero List.length_cons cast0 castS sub_app take_app sub_app1 take_app1 take_one1 natC zero_le_natC i64_min i64_max u64_min u64_max u8_min u8_max inK_i64 inK_u64 inK_u8 Option.map_some Option.map_none Option.bind_some Option.getD_some Option.getD_none Option.isNone_none Option.isNone_some Bool.and_true Bool.true_and Bool.and_false Bool.false_and Bool.not_true Bool.not_false if_true if_false List.length_cons List.length_nil and_true true_and and_self List.all_cons List.all_nil List.append_nil List.nil_append List.cons_append List.getElem?_cons_zero List.getElem?_cons_succ List.getElem?_nil List.map_cons List.map_nil List.set_cons_zero List.set_cons_succ List.isEmpty_nil List.isEmpty_cons decide_true decide_false beq_self_eq_true bne_self_eq_false Nat.zero_add Nat.add_zero Nat.sub_zero Int.toNat_natCast Int.toNat_zero Int.toNat_one List.take_length List.length_append List.length_singleton true_or or_true or_self false_or or_false Ty.agg.injEq Ty.slice.injEq Ty.prod.injEq Ty.int.injEq Option.some.injEq beq_iff_eq evM evMG evMQ opM isPick viewE viewS viewG opTs opTmp consE guardM guardM1 guardM2 sideM sideM2 pickM pickM2 sufB chEq_nil chEq_nc chEq_cn chEq_cons memB dstOf Op.operands Call.operands List.filterMap_cons List.filterMap_nil List.append_eq Bool.cond_false_right Bool.cond_true_left cond_true cond_false implies_true decide_eq_true_eq beq_true beq_false Bool.or_true Bool.or_false Bool.true_or Bool.false_or Option.isSome_some fieldV namesAg namesAgs capNs qClo qClo2 qMakeMap qMakeMap2 qMakeMap3 qLook qLook2 qLook3 qLook4 keyT keyP eqT inB lMapUp lMapUp2 lMapUp3 namesMap argEnv cm_tb List.drop_zero pruneR prune rem1 afterM addDst fgtEnv AV.fgt AV.fgts Obj.fgt restObjs handed memB calleeOf opvs matchArgs matchArg List.any_cons List.any_nil evF evFO evFQ evFK addQ frOk qs List.flatMap_cons List.flatMap_nil List.cons_append tn appN fgtEN List.take_succ_cons List.drop_succ_cons isYl parEnv rangeSt cY_tb marked_tb renOk renIn matchObjs matchEnv matchE matchAV matchAVs matchF matchO pureT
attribute [local go_sem] ty1 ty2 ty3 ty4 ty5 ty9 ty12 ty21 ty22 ty23 ty24 ty25 ty26 ty27 ty28 ty29 ty30 ty31 ty32 ty34 ty35 ty36 ty37 ty38 ty39 ty40 ty41 ty42 ty43 ty44 ty45 ty46 ty47 ty48 ty49 ty50 ty51 ty52 ty53 ty54 ty55 ty56 ty57 ty58 ty59 ty60 ty61 ty62 ty63 ty64 ty65 ty66 ty67 ty68 ty69 ty70 ty71 ty72 ty73 ty74 ty75 ty76 ty77 ty78 ty79 ty81 ty82 ty83 ty84 ty85 ty86 ty87 ty88 ty89 ty90 ty91 ty92 ty93 ty94 ty95 ty96 ty97 ty98 ty99 ty100 ty102 ty103 ty104 ty105 ty106 ty107 ty108 ty110 ty112 ty113 ty114 ty115 ty116 ty117 ty118 ty119 ty120 ty121 ty122 ty123 ty124 ty125 ty126 ty127 ty128 ty129 ty130 ty131 ty132 ty133 ty134 ty135 ty137 ty138 ty140 ty141 ty142 ty143 ty144 ty145 ty146 ty147 ty148 ty150 ty151 ty152 ty153 ty154 ty155 ty156 ty157 ty158 ty159 ty160 ty161 ty162 ty163 ty165 ty166 ty167 ty168 ty169 ty170 ty171 ty172 ty173 ty174 ty175 ty176 ty177 ty178 ty179 ty180 ty181 ty182 ty183 ty184 ty185 ty187 ty188 ty189 ty190 ty191 ty192 ty193 ty194 ty195 ty196 ty198 ty199 ty200 ty201 ty202 ty203 ty204 ty205 ty206 ty207 ty208 ty209 ty210 ty211 ty212 ty213 ty214 ty216 ty217 ty218 ty219 ty220 ty221 ty222 ty223 ty224 ty225 ty226 ty227 ty228 ty229 ty230 ty231 ty232 ty233 ty234 ty235 ty236 ty237 ty239 ty240 ty241 ty242 ty243 ty244 ty245 ty246 ty247 ty248 ty249 ty250 ty251 ty252 ty253 ty254 ty255 ty256 ty257 ty258 ty259 ty260 ty262 ty263 ty264 ty265 ty266 ty267 ty268 ty269 ty270 ty271 ty272 ty273 ty274 ty275 ty276 ty277 ty283 ty286 ty287
set_option maxRecDepth 100000
set_option maxHeartbeats 4000000
section
noncomputable def unifyS:Spec:={ ins:=[T29,T25,T25],pre:=fun (h,a,b,_)=>HU h∧VF h a∧VF h b∧List.length a + List.length b≤10000,out:=fun (h,a,b,_)=>[.p T25 (unifyF h a b).1,.p .bool (unifyF h a b).2] }
attribute [local go_sem] unifyS
theorem unify_ok:FnOk Tryz.prog 18 unifyS:=by
 refine fn_ok Tryz.func18 (by kernel_rfl) rfl Tryz.ntmps18 (by decide) (by kernel_rfl) (tyTab_ok []) fns_nil ?_
 rintro w0 O0 ⟨h,a,b,u⟩ hc - ⟨hu,va,vb,hab⟩
 simp only [unifyS,entEnv]
 repeat' (first | exact trivial | refine eS rfl ?_ | refine ev_out_inv ?_ | refine rX [0,1,2,3,4,5,6,7,8,25] hc ?_ ?_ | (refine rC (fun hcond=>?_) (fun hcond=>?_)<;>try (cases hcond;done)))
 refine cP 3 hc ?_ ?_
 ·trivial
 ·refine rM hc (add_ok h [] [] [] a va.good (by simp) rfl rfl) [(1,.nm 11),(2,.nil),(3,.nil),(4,.nil)] [] ?_ ?_ ?_
  ·first | exact eN | refine eM ?_
  ·simp only [clO]
   first | exact eN | refine eM ?_
  ·rintro _ _ ⟨rfl,rfl⟩
   refine ⟨[(11,.nm 1),(102,.nm 2),(103,.nm 3),(104,.nm 4)],.raw (.tuple #[]),[(11,.box 94 true [.p T29 h,.sr 102 T3 0 (numsG 0 a.length).length,.sr 103 T3 0 (typesG a a.length).length,.sr 104 T86 0 (arcsU 0 a a.length).length]),(102,.arr 3 T3 (numsG 0 a.length)),(103,.arr 3 T3 (typesG a a.length)),(104,.arr 86 T86 (arcsU 0 a a.length))],rfl,rfl,?_,?_,rfl,rfl,evL_end ?_⟩
   ·simp only [clO]
    first | exact eN | refine eM ?_
   ·first | exact eN | refine eM ?_
   ·have la:(numsG 0 a.length).length=a.length:=numsG_len 0 a.length
    have lt:(typesG a a.length).length=a.length:=by unfold typesG;rw [List.length_map,List.take_length]
    have lr:(arcsU 0 a a.length).length=a.length:=by unfold arcsU;rw [List.length_map,List.take_length]
    repeat' (first | exact trivial | refine eS rfl ?_ | refine ev_out_inv ?_ | refine rX [0,1,2,3,4,5,6,7,8,25] hc ?_ ?_ | (refine rC (fun hcond=>?_) (fun hcond=>?_)<;>try (cases hcond;done)))
    refine cP 3 hc ?_ ?_
    ·trivial
    ·refine rM hc (add_ok h (numsG 0 a.length) (typesG a a.length) (arcsU 0 a a.length) b vb.good (by omega) (by omega) (by omega)) [(1,.nm 11),(2,.nm 102),(3,.nm 103),(4,.nm 104)] [102,103,104] ?_ ?_ ?_
     ·first | exact eN | refine eM ?_
     ·simp only [clO]
      first | exact eN | refine eM ?_
     ·rintro _ _ ⟨rfl,rfl⟩
      rw [la,numsG_app,types_join,arcs_join]
      rw [show a.length + b.length=(joinN a b).length from (joinN_len a b).symm]
      have hN:=joinN_len a b
      have hgN:=joinN_good va.good vb.good (by omega)
      have hji:=ji_init hgN (joinN_ty va.ty vb.ty) (joinN_str va.str vb.str)
      have hft:=joinN_ft (va.ft64 hu) (vb.ft64 hu)
      have hfl:=featsN_len (N:=joinN a b) fun x hx=>str_64 (joinN_str va.str vb.str x hx) (hft x hx)
      have hap:=va.pos
      have hbp:=vb.pos
      have hof:=fun p ty ar hj hQ=>unif_of va vb (p:=p) (ty:=ty) (ar:=ar) hj hQ
      have hno:=unif_none va vb
      generalize numsG 0 (joinN a b).length=p0 at *
      generalize typesN (joinN a b)=t0 at *
      generalize arcsN (joinN a b)=r0 at *
      refine ⟨[(11,.nm 1),(102,.nm 2),(103,.nm 3),(104,.nm 4)],.raw (.tuple #[]),[(11,.box 94 true [.p T29 h,.sr 102 T3 0 p0.length,.sr 103 T3 0 t0.length,.sr 104 T86 0 r0.length]),(102,.arr 3 T3 p0),(103,.arr 3 T3 t0),(104,.arr 86 T86 r0)],rfl,rfl,?_,?_,rfl,rfl,evL_end ?_⟩
      ·simp only [clO]
       first | exact eN | refine eM ?_
      ·first | exact eN | refine eM ?_
      ·repeat' (first | exact trivial | refine eS rfl ?_ | refine ev_out_inv ?_ | refine rX [0,1,2,3,4,5,6,7,8,25] hc ?_ ?_ | (refine rC (fun hcond=>?_) (fun hcond=>?_)<;>try (cases hcond;done)))
       refine cP 4 hc ?_ ?_
       ·trivial
       ·refine rM hc (join_ok h hu.ok hji (a:=0) (b:=(a.length:Int)) (by omega) (by omega) (by omega) (by omega)) [(101,.nm 11),(102,.nm 102),(103,.nm 103),(104,.nm 104)] [102,103,104] ?_ ?_ ?_
        ·first | exact eN | refine eM ?_
        ·simp only [clJ]
         first | exact eN | refine eM ?_
        ·rintro res objs' (⟨rfl,p1,t1,r1,rfl,hj1⟩ | ⟨rfl,⟨p1,t1,r1,rfl⟩,hno1⟩)
         ·have hQ:=quo_good hj1 (by omega) hft
          have hUn:=unifyF_some hu (hof p1 t1 r1 hj1 hQ)
          refine ⟨[(11,.nm 101),(102,.nm 102),(103,.nm 103),(104,.nm 104)],.p .bool true,[(11,.box 94 true [.p T29 h,.sr 102 T3 0 p1.length,.sr 103 T3 0 t1.length,.sr 104 T86 0 r1.length]),(102,.arr 3 T3 p1),(103,.arr 3 T3 t1),(104,.arr 86 T86 r1)],rfl,rfl,?_,?_,rfl,rfl,?_⟩
          ·simp only [clJ]
           first | exact eN | refine eM ?_
          ·first | exact eN | refine eM ?_
          ·refine rL [0,1,2,3,4,5,6,7,8,25] hc ?_ ?_
           ·trivial
           ·repeat' (first | exact trivial | refine eS rfl ?_ | refine ev_out_inv ?_ | refine rX [0,1,2,3,4,5,6,7,8,25] hc ?_ ?_ | (refine rC (fun hcond=>?_) (fun hcond=>?_)<;>try (cases hcond;done)))
            refine cP 1 hc ?_ ?_
            ·trivial
            ·refine rM hc (graph_ok h hj1.fo hQ (by rw [hj1.lt,hj1.lp]) (by rw [hj1.la,hj1.lp]) (fun k x hx=>by rw [hj1.lp];exact (hj1.arr k x hx).1) (r:=0) (by omega) (by rw [hj1.lp];omega)) [(101,.nm 11),(102,.nm 102),(103,.nm 103),(104,.nm 104)] [11,102,103,104] ?_ ?_ ?_
             ·first | exact eN | refine eM ?_
             ·simp only [clJ]
              first | exact eN | refine eM ?_
             ·rintro _ objs' rfl
              refine ⟨[],.p T25 (canonicalF (quo p1 t1 r1) (rtF p1 0)),[],rfl,rfl,?_,?_,rfl,rfl,?_⟩
              ·first | exact eN | refine eM ?_
              ·first | exact eN | refine eM ?_
              ·refine rL [0,1,2,3,4,5,6,7,8,25] hc ?_ ?_
               ·trivial
               ·repeat' (first | exact trivial | refine eS rfl ?_ | refine ev_out_inv ?_ | refine rX [0,1,2,3,4,5,6,7,8,25] hc ?_ ?_ | (refine rC (fun hcond=>?_) (fun hcond=>?_)<;>try (cases hcond;done)))
                exact ev_fin hc [.cell 6 25,.tmp 7] rfl (.inl rfl) (by simp) (by rw [hUn];first | exact eR | refine eRM ?_)
         ·have hUn:=hno (fun X v hX hv=>hno1 X v hX hv)
          refine ⟨[(11,.nm 101),(102,.nm 102),(103,.nm 103),(104,.nm 104)],.p .bool false,[(11,.box 94 true [.p T29 h,.sr 102 T3 0 p1.length,.sr 103 T3 0 t1.length,.sr 104 T86 0 r1.length]),(102,.arr 3 T3 p1),(103,.arr 3 T3 t1),(104,.arr 86 T86 r1)],rfl,rfl,?_,?_,rfl,rfl,?_⟩
          ·simp only [clJ]
           first | exact eN | refine eM ?_
          ·first | exact eN | refine eM ?_
          ·refine rL [0,1,2,3,4,5,6,7,8,25] hc ?_ ?_
           ·trivial
           ·repeat' (first | exact trivial | refine eS rfl ?_ | refine ev_out_inv ?_ | refine rX [0,1,2,3,4,5,6,7,8,25] hc ?_ ?_ | (refine rC (fun hcond=>?_) (fun hcond=>?_)<;>try (cases hcond;done)))
            exact ev_fin hc [.cell 6 25,.tmp 7] rfl (.inl rfl) (by simp) (by rw [hUn];first | exact eR | refine eRM ?_)
end
/- Functions of grammarlablaw11: hierarchy, fits, of; graph.Atom. -/
section
attribute [local go_sem] compileS preludeS lightS check7S
def hier11F (d:List DeclD):HierD:=if d.length≤12∧(compileF d).2=0 then (compileF d).1 else (compileF preludeF).1
def hier11S:Spec:={ ins:=[T22],pre:=fun _=>True,out:=fun (d,_)=>[.p T29 (hier11F d)] }
theorem hier11_ok:FnOk Tryz.prog 15 hier11S:=by
 refine fn_ok Tryz.func15 (by kernel_rfl) rfl Tryz.ntmps15 (by decide) (by kernel_rfl) (tyTab_ok [(52,compileS),(53,preludeS)]) (fns_cons compile_ok (fns_cons prelude_ok fns_nil)) ?_
 rintro w0 O0 ⟨d,u⟩ hc - -
 simp only [hier11S,entEnv]
 repeat' (first | exact trivial | refine eS rfl ?_ | refine ev_out_inv ?_ | refine rX [0,2,3,4,5,9,16] hc ?_ ?_ | (refine rC (fun hcond=>?_) (fun hcond=>?_)<;>try (cases hcond;done)))
 ·have h1:hier11F d=(compileF d).1:=by unfold hier11F;rw [if_pos ⟨by exact eV,hcond⟩]
  exact ev_fin hc [.cell 2 29] rfl (.inl rfl) (by simp) (by rw [h1];first | exact eR | refine eRM ?_)
 ·have h1:hier11F d=(compileF preludeF).1:=by unfold hier11F;rw [if_neg (fun h=>hcond h.2)]
  exact ev_fin hc [.cell 2 29] rfl (.inl rfl) (by simp) (by rw [h1];first | exact eR | refine eRM ?_)
 ·have h1:hier11F d=(compileF preludeF).1:=by
   unfold hier11F
   rw [if_neg]
   intro h
   have:=h.1
   exact eV
  exact ev_fin hc [.cell 2 29] rfl (.inl rfl) (by simp) (by rw [h1];first | exact eR | refine eRM ?_)
def fitsF (h:HierD) (l:List (List GNode)):Bool:=l.all (validB h)
def fitsS:Spec:={ ins:=[T29,T37],pre:=fun _=>True,out:=fun (h,l,_)=>[.p .bool (fitsF h l)],lend:=true }
theorem fits_ok:FnOk Tryz.prog 16 fitsS:=by
 refine fn_ok Tryz.func16 (by kernel_rfl) rfl Tryz.ntmps16 (by decide) (by kernel_rfl) (tyTab_ok [(54,lightS),(55,check7S)]) (fns_cons light_ok (fns_cons check7_ok fns_nil)) ?_
 rintro w0 O0 ⟨⟨ht,hf⟩,l,u⟩ hc ⟨-,⟨hl,-⟩,-⟩ -
 simp only [maxN] at hl
 simp only [fitsS,entEnv]
 repeat' (first | exact trivial | refine eS rfl ?_ | refine ev_out_inv ?_ | refine rX [0,1,2,4,6,7,8,9,10,21] hc ?_ ?_ | (refine rC (fun hcond=>?_) (fun hcond=>?_)<;>try (cases hcond;done)))
 refine ev_loop (ι:={k:Nat // k≤l.length∧(l.take k).all (validB (ht,hf))=true}) (fun k=>⟨[(2,.bp 2 [] 0),(7,.p T37 l),(8,.p (.int .i64) (l.length:Int)),(9,.p (.int .i64) (k.1:Int))],[(2,.box 29 true [.p T26 ht,.p T27 hf])]⟩) (fun k=>l.length - k.1) ⟨0,by simp⟩ (ent_match [(2,.nm 2)] rfl rfl ?_ ?_) (fun k=>?_)
 ·first | exact eN | refine eM ?_
 ·first | exact eN | refine eM ?_
 ·obtain ⟨k,hk,hall⟩:=k
  repeat' (first | exact trivial | refine eS rfl ?_ | refine ev_out_inv ?_ | refine rX [0,1,2,4,6,7,8,9,10,21] hc ?_ ?_ | (refine rC (fun hcond=>?_) (fun hcond=>?_)<;>try (cases hcond;done)))
  ·exact hcond
  ·intro h
   obtain ⟨h1,h2⟩:=light_small (f:=l.getD k []) (by simpa using h)
   exact ⟨Nat.le_trans h1 (by decide),fun x hx=>Nat.le_trans (h2 x hx) (by decide)⟩
  ·have hkl:k < l.length:=Int.ofNat_lt.1 (by assumption)
   have h1:fitsF (ht,hf) l=false:=by
    unfold fitsF
    rw [List.all_eq_false]
    refine ⟨_,mem_of_take_succ l [] hkl,?_⟩
    unfold validB
    rw [Bool.and_eq_true,beq_iff_eq]
    rintro ⟨h2,h3⟩
    rcases hcond with h | h
    ·rw [h2] at h;cases h
    ·exact h h3
   exact ev_fin hc [.tmp 4] rfl (.inl rfl) (by simp) (by rw [h1];first | exact eR | refine eRM ?_)
  ·omega
  ·have hkl:k < l.length:=Int.ofNat_lt.1 (by assumption)
   refine ⟨⟨k + 1,hkl,?_⟩,by simp only;omega,ent_match [(2,.nm 2)] rfl rfl ?_ ?_⟩
   ·have h:validB (ht,hf) (l.getD k [])=true:=by
     have h2:=hcond.2
     unfold validB
     rw [hcond.1,Bool.true_and,beq_iff_eq]
     simpa using h2
    rw [take_snoc l [] hkl,List.all_append,hall]
    simpa using h
   ·first | exact eN | refine eM ?_
   ·first | exact eN | refine eM ?_
  ·have hk:l.take k=l:=List.take_of_length_le (Int.ofNat_le.1 hcond)
   rw [hk] at hall
   have h1:fitsF (ht,hf) l=true:=hall
   exact ev_fin hc [.tmp 4] rfl (.inl rfl) (by simp) (by rw [h1];first | exact eR | refine eRM ?_)
def of11S:Spec:={ ins:=[T23],pre:=fun _=>True,out:=fun (l,_)=>[.p T25 l] }
theorem of11_ok:FnOk Tryz.prog 57 of11S:=by
 refine fn_ok Tryz.func57 (by kernel_rfl) rfl Tryz.ntmps57 (by decide) (by kernel_rfl) (tyTab_ok []) fns_nil ?_
 rintro w0 O0 ⟨t,u⟩ hc - -
 simp only [of11S,entEnv]
 repeat' (first | exact trivial | refine eS rfl ?_ | refine ev_out_inv ?_ | refine rX [0,2] hc ?_ ?_ | (refine rC (fun hcond=>?_) (fun hcond=>?_)<;>try (cases hcond;done)))
 exact ev_fin hc [.cell 2 25] rfl (.inl rfl) (by simp) (by first | exact eR | refine eRM ?_)
def gatomS:Spec:={ ins:=[T3],pre:=fun _=>True,out:=fun (t,_)=>[.p T25 [(t,[])]] }
theorem gatom_ok:FnOk Tryz.prog 70 gatomS:=by
 refine fn_ok Tryz.func70 (by kernel_rfl) rfl Tryz.ntmps70 (by decide) (by kernel_rfl) (tyTab_ok []) fns_nil ?_
 rintro w0 O0 ⟨t,u⟩ hc - -
 simp only [gatomS,entEnv]
 repeat' (first | exact trivial | refine eS rfl ?_ | refine ev_out_inv ?_ | refine rX [0,2] hc ?_ ?_ | (refine rC (fun hcond=>?_) (fun hcond=>?_)<;>try (cases hcond;done)))
 exact ev_fin hc [.cell 2 25] rfl (.inl rfl) (by simp) (by first | exact eR | refine eRM ?_)
end
/- Functions of unify: All; of grammarlablaw11: node, small. -/
section
attribute [local go_sem] unifyS gatomS compileS cs1 cs3
noncomputable def unifsF (h:HierD):List GNode→List (List GNode)→List GNode×Bool
 | f,[]=>(f,true)
 | f,x :: l=>if (unifyF h f x).2=true then unifsF h (unifyF h f x).1 l else ([],false)
noncomputable def allF (h:HierD):List (List GNode)→List GNode×Bool
 | []=>([((0:Int),[])],true)
 | f :: l=>unifsF h f l
noncomputable def allS:Spec:={ ins:=[T29,T37],pre:=fun (h,l,_)=>HU h∧List.length l≤50∧∀ x∈(l:List (List GNode)),VF h x∧x.length≤100,out:=fun (h,l,_)=>[.p T25 (allF h l).1,.p .bool (allF h l).2] }
theorem all_ok:FnOk Tryz.prog 21 allS:=by
 refine fn_ok Tryz.func21 (by kernel_rfl) rfl Tryz.ntmps21 (by decide) (by kernel_rfl) (tyTab_ok [(70,gatomS),(18,unifyS)]) (fns_cons gatom_ok (fns_cons unify_ok fns_nil)) ?_
 rintro w0 O0 ⟨h,l,u⟩ hc - ⟨hu,hl,hx⟩
 simp only [allS,entEnv]
 repeat' (first | exact trivial | refine eS rfl ?_ | refine ev_out_inv ?_ | refine rX [0,1,2,4,5,6,8,9,10,13,19,20,21,22,33] hc ?_ ?_ | (refine rC (fun hcond=>?_) (fun hcond=>?_)<;>try (cases hcond;done)))
 ·have hl0:l=[]:=List.eq_nil_of_length_eq_zero (by omega)
  subst hl0
  exact ev_fin hc [.cell 4 25,.tmp 5] rfl (.inl rfl) (by simp) (by first | exact eR | refine eRM ?_;exact ⟨rfl,rfl⟩)
 ·have h1:(List.length l:Int)≠0:=hcond
  have h2:0≤(List.length l:Int):=Int.natCast_nonneg _
  dsimp only [Ty.den] at *
  omega
 ·have h1:(List.length l:Int)≠0:=hcond
  have h2:0≤(List.length l:Int):=Int.natCast_nonneg _
  dsimp only [Ty.den] at *
  omega
 ·obtain ⟨g0,r,rfl⟩:∃ g r,l=g :: r:=by
   cases l with
   | nil=>exact absurd rfl hcond
   | cons g r=>exact ⟨g,r,rfl⟩
  have e0:(g0 :: r).getD 0 []=g0:=rfl
  have hg0:=hx g0 (by simp)
  have hr:∀ x∈r,VF h x∧x.length≤100:=fun x hx2=>hx x (by simp [hx2])
  have hrl:r.length≤49:=by
   have h:(g0 :: r).length≤50:=hl
   rw [List.length_cons] at h
   omega
  have hall:allF h (g0 :: r)=unifsF h g0 r:=rfl
  rw [hall,e0]
  simp only [List.drop_succ_cons,List.drop_zero]
  refine ev_loop (ι:={s:Nat×List GNode // s.1≤r.length∧(VF h s.2∧s.2.length≤100 * (s.1 + 1))∧unifsF h g0 r=unifsF h s.2 (r.drop s.1)}) (fun s=>⟨[(2,.bp 2 [] 0),(4,.bp 4 [] 0),(6,.bp 6 [] 0),(19,.p T37 r),(20,.p (.int .i64) (r.length:Int)),(21,.p (.int .i64) (s.1.1:Int))],[(2,.box 29 true [.p T26 h.1,.p T27 h.2]),(4,.box 25 true [.raw (.slice none 0 0)]),(6,.box 25 true [.p T23 s.1.2])]⟩) (fun s=>r.length - s.1.1) ⟨(0,g0),Nat.zero_le _,⟨hg0.1,by simp only;omega⟩,rfl⟩ (ent_match [(2,.nm 2),(4,.nm 4),(6,.nm 6)] rfl rfl ?_ ?_) (fun s=>?_)
  ·first | exact eN | refine eM ?_
  ·first | exact eN | refine eM ?_
  ·obtain ⟨⟨k,g⟩,hk,⟨hg,hgl⟩,he⟩:=s
   simp only at hk hg hgl he ⊢
   have hrd:=fun h:k < r.length=>hr _ (mem_of_take_succ r [] h)
   repeat' (first | exact trivial | refine eS rfl ?_ | refine ev_out_inv ?_ | refine rX [0,1,2,4,5,6,8,9,10,13,19,20,21,22,33] hc ?_ ?_ | (refine rC (fun hcond=>?_) (fun hcond=>?_)<;>try (cases hcond;done)))
   ·exact hcond
   ·have h1:=hrd (Int.ofNat_lt.1 (by assumption))
    exact ⟨hu,hg,h1.1,by omega⟩
   ·have hk2:k < r.length:=Int.ofNat_lt.1 (by assumption)
    have h1:unifsF h g0 r=([],false):=by
     rw [he,List.drop_eq_getElem_cons hk2]
     simp only [unifsF]
     have e:r.getD k []=r[k]:=by simp [List.getD_eq_getElem?_getD,hk2]
     rw [← e]
     have hcond:(unifyF h g (r.getD k [])).2=false:=hcond
     rw [if_neg (by rw [hcond];simp)]
    exact ev_fin hc [.cell 4 25,.tmp 5] rfl (.inl rfl) (by simp) (by rw [h1];first | exact eR | refine eRM ?_)
   ·omega
   ·have hk2:k < r.length:=Int.ofNat_lt.1 (by assumption)
    have hcond:(unifyF h g (r.getD k [])).2=true:=hcond
    have hU:=unifyF_true hcond
    have h1:=hrd hk2
    have hul:=hU.len
    refine ⟨⟨(k + 1,(unifyF h g (r.getD k [])).1),hk2,⟨hU.vf,by simp only;omega⟩,?_⟩,by simp only;omega,ent_match [(2,.nm 2),(4,.nm 4),(6,.nm 6)] rfl rfl ?_ ?_⟩
    ·rw [he,List.drop_eq_getElem_cons hk2]
     simp only [unifsF]
     have e:r.getD k []=r[k]:=by simp [List.getD_eq_getElem?_getD,hk2]
     rw [← e,if_pos hcond]
    ·first | exact eN | refine eM ?_
    ·first | exact eN | refine eM ?_
   ·have hk2:r.drop k=[]:=List.drop_eq_nil_of_le (Int.ofNat_le.1 hcond)
    rw [hk2] at he
    rw [he]
    exact ev_fin hc [.cell 4 25,.tmp 5] rfl (.inl rfl) (by simp) (by first | exact eR | refine eRM ?_;exact ⟨rfl,rfl⟩)
def pairsF (l:List Int) (n:Nat):List (Int×Int):=(List.range n).map fun i=>(l.getD (2 * i) 0,l.getD (2 * i + 1) 0)
theorem pairsF_succ (l:List Int) (n:Nat):pairsF l (n + 1)=pairsF l n++[(l.getD (2 * n) 0,l.getD (2 * n + 1) 0)]:=by simp [pairsF,List.range_succ]
theorem pairsF_len (l:List Int) (n:Nat):(pairsF l n).length=n:=by simp [pairsF]
def node11S:Spec:={ ins:=[T3,T40],pre:=fun (_,l,_)=>List.length l≤1000,out:=fun (t,l,_)=>[.p T88 (t,pairsF l (List.length l / 2))] }
theorem node11_ok:FnOk Tryz.prog 58 node11S:=by
 refine fn_ok Tryz.func58 (by kernel_rfl) rfl Tryz.ntmps58 (by decide) (by kernel_rfl) (tyTab_ok []) fns_nil ?_
 rintro w0 O0 ⟨t,l,u⟩ hc - hl
 simp only [node11S,entEnv]
 repeat' (first | exact trivial | refine eS rfl ?_ | refine ev_out_inv ?_ | refine rX [0,1,4,5,6,13] hc ?_ ?_ | (refine rC (fun hcond=>?_) (fun hcond=>?_)<;>try (cases hcond;done)))
 have hl:l.length≤1000:=hl
 refine ev_loop (ι:={k:Nat // k≤l.length / 2}) (fun k=>⟨[(1,.p T40 l),(4,.bp 4 [] 0),(5,.bp 5 [] 0),(6,.p (.int .i64) (2 * (k.1:Int)))],[(4,.box 88 true [.p T3 (0:Int),.raw (.slice none 0 0)]),(5,.box 88 true [.p T3 t,.sr 29 T108 0 (pairsF l k.1).length]),(29,.arr 108 T108 (pairsF l k.1))]⟩) (fun k=>l.length / 2 - k.1) ⟨0,Nat.zero_le _⟩ (ent_match [(4,.nm 4),(5,.nm 5),(29,.nil)] rfl rfl ?_ ?_) (fun k=>?_)
 ·first | exact eN | refine eM ?_
  exact ⟨rfl,rfl⟩
 ·first | exact eN | refine eM ?_
  rfl
 ·obtain ⟨k,hk⟩:=k
  have hpl:=pairsF_len l k
  have hps:=pairsF_succ l k
  simp only
  repeat' (first | exact trivial | refine eS rfl ?_ | refine ev_out_inv ?_ | refine rX [0,1,4,5,6,13] hc ?_ ?_ | (refine rC (fun hcond=>?_) (fun hcond=>?_)<;>try (cases hcond;done)))
  ·omega
  ·rw [hpl]
   simp only [maxN]
   exact eV
  ·omega
  ·refine ⟨⟨k + 1,by omega⟩,by simp only;omega,ent_match [(4,.nm 4),(5,.nm 5),(29,.nm 29)] rfl rfl ?_ ?_⟩
   ·simp only [hps]
    first | exact eN | refine eM ?_
    rw [show (2 * (k:Int)).toNat=2 * k by omega,show (2 * (k:Int) + 1).toNat=2 * k + 1 by omega]
   ·first | exact eN | refine eM ?_
    show (2 * (k:Int) + 2)=2 * ((k:Int) + 1)
    omega
  ·have hke:k=l.length / 2:=by omega
   subst hke
   exact ev_fin hc [.cell 4 88] rfl (.inl rfl) (by simp) (by first | exact eR | refine eRM ?_)
def smallD:List DeclD:=[(ByteArray.mk #[116,111,112],[],[(ByteArray.mk #[70],ByteArray.mk #[116,111,112]),(ByteArray.mk #[71],ByteArray.mk #[116,111,112])]),(ByteArray.mk #[120],[ByteArray.mk #[116,111,112]],[]),(ByteArray.mk #[121],[ByteArray.mk #[116,111,112]],[])]
def small11S:Spec:={ ins:=[],pre:=fun _=>True,out:=fun _=>[.p T29 (compileF smallD).1] }
theorem small11_ok:FnOk Tryz.prog 56 small11S:=by
 refine fn_ok Tryz.func56 (by kernel_rfl) rfl Tryz.ntmps56 (by decide) (by kernel_rfl) (tyTab_ok [(52,compileS)] [6,8,10,12]) (fns_cons compile_ok fns_nil) ?_
 rintro w0 O0 u hc - -
 simp only [small11S,entEnv]
 repeat' (first | exact trivial | refine eS rfl ?_ | refine ev_out_inv ?_ | refine rX [0,1] hc ?_ ?_ | (refine rC (fun hcond=>?_) (fun hcond=>?_)<;>try (cases hcond;done)))
 exact ev_fin hc [.cell 0 29] rfl (.inl rfl) (by simp) (by unfold smallD;first | exact eR | refine eRM ?_)
end
/- Functions of grammarlabref11: All; the order of the elements. -/
section
attribute [local go_sem] uni11S atomS
structure AllU (h:HierD) (l:List (List GNode)) (U:List GNode):Prop where
 vf:VF h U
 hom:∀ x∈l,∃ m,Hom h x U m
 least:∀ X,VF h X→(∀ x∈l,∃ m,Hom h x X m)→∃ m,Hom h U X m
theorem unifs_law {h:HierD} (hu:HU h):∀ (l:List (List GNode)) (f:List GNode),VF h f→(∀ x∈l,VF h x∧x.length≤100)→f.length + 100 * l.length≤10000→((unifsF h f l).2=true∧AllU h (f :: l) (unifsF h f l).1)∨(unifsF h f l=([],false)∧∀ X,VF h X→¬ ∀ x∈f :: l,∃ m,Hom h x X m)
 | [],f,hf,_,_=>by
  refine .inl ⟨rfl,hf,fun x hx=>?_,fun X hX hh=>hh f (by simp)⟩
  have:x=f:=by simpa using hx
  subst this
  exact ⟨_,hom_id hf.str⟩
 | x :: l,f,hf,hl,hs=>by
  have hx:=hl x (by simp)
  simp only [List.length_cons] at hs
  rcases unifyF_cases (h:=h) f x with ⟨U,hU,e⟩ | ⟨e,hno⟩
  ·have e1:unifsF h f (x :: l)=unifsF h U l:=by
    simp only [unifsF]
    rw [e,if_pos rfl]
   rw [e1]
   obtain ⟨m1,g1⟩:=hU.left
   obtain ⟨m2,g2⟩:=hU.right
   have hUl:=hU.len
   have hX:∀ X,VF h X→(∀ y∈f :: x :: l,∃ m,Hom h y X m)→∀ y∈U :: l,∃ m,Hom h y X m:=fun X hX hh y hy=>by
    rcases List.mem_cons.1 hy with rfl | hy
    ·obtain ⟨k1,q1⟩:=hh f (by simp)
     obtain ⟨k2,q2⟩:=hh x (by simp)
     exact hU.least X hX.ty k1 q1 k2 q2
    ·exact hh y (by simp [hy])
   rcases unifs_law hu l U hU.vf (fun y hy=>hl y (by simp [hy])) (by omega) with ⟨h1,h2⟩ | ⟨h1,h2⟩
   ·refine .inl ⟨h1,h2.vf,fun y hy=>?_,fun X hX' hh=>h2.least X hX' (hX X hX' hh)⟩
    obtain ⟨mU,gU⟩:=h2.hom U (by simp)
    rcases List.mem_cons.1 hy with rfl | hy
    ·exact ⟨_,hom_comp hu.ok hf.good hf.ty hU.vf.ty h2.vf.ty g1 gU⟩
    ·rcases List.mem_cons.1 hy with rfl | hy
     ·exact ⟨_,hom_comp hu.ok hx.1.good hx.1.ty hU.vf.ty h2.vf.ty g2 gU⟩
     ·exact h2.hom y (by simp [hy])
   ·exact .inr ⟨h1,fun X hX' hh=>h2 X hX' (hX X hX' hh)⟩
  ·refine .inr ⟨?_,fun X hX' hh=>?_⟩
   ·simp only [unifsF]
    rw [e,if_neg (by simp)]
   ·obtain ⟨k1,q1⟩:=hh f (by simp)
    obtain ⟨k2,q2⟩:=hh x (by simp)
    obtain ⟨U,hU⟩:=unif_ex hu hf hx.1 (by omega) hX'.ty q1 q2
    exact hno U hU
theorem all_law {h:HierD} (hu:HU h) {l:List (List GNode)} (h0:l≠[]) (hl:∀ x∈l,VF h x∧x.length≤100) (hn:l.length≤50):((allF h l).2=true∧AllU h l (allF h l).1)∨(allF h l=([],false)∧∀ X,VF h X→¬ ∀ x∈l,∃ m,Hom h x X m):=by
 cases l with
 | nil=>exact absurd rfl h0
 | cons f l =>
  have hf:=hl f (by simp)
  simp only [List.length_cons] at hn
  exact unifs_law hu l f hf.1 (fun x hx=>hl x (by simp [hx])) (by omega)
theorem all_rev {h:HierD} (hu:HU h) {l:List (List GNode)} (hl:∀ x∈l,VF h x∧x.length≤100) (hn:l.length≤50):allF h l.reverse=allF h l:=by
 by_cases h0:l=[]
 ·subst h0;rfl
 have hr:∀ x∈l.reverse,VF h x∧x.length≤100:=fun x hx=>hl x (List.mem_reverse.1 hx)
 rcases all_law hu h0 hl hn with ⟨a1,a2⟩ | ⟨a1,a2⟩<;>rcases all_law hu (l:=l.reverse) (by simpa using h0) hr (by simpa using hn) with ⟨b1,b2⟩ | ⟨b1,b2⟩
 ·obtain ⟨m1,g1⟩:=a2.least _ b2.vf fun x hx=>b2.hom x (List.mem_reverse.2 hx)
  obtain ⟨m2,g2⟩:=b2.least _ a2.vf fun x hx=>a2.hom x (List.mem_reverse.1 hx)
  exact Prod.ext (vf_eq hu b2.vf a2.vf g2 g1) (b1.trans a1.symm)
 ·exact (b2 _ a2.vf fun x hx=>a2.hom x (List.mem_reverse.1 hx)).elim
 ·exact (a2 _ b2.vf fun x hx=>b2.hom x (List.mem_reverse.2 hx)).elim
 ·rw [a1,b1]
noncomputable def all11S:Spec:={ ins:=[T29,T37],pre:=fun (h,l,_)=>(HU h∧NrmH h∧HTop h)∧List.length l≤4∧∀ x∈(l:List (List GNode)),VF h x∧x.length≤12,out:=fun (h,l,_)=>[.p T25 (allF h l).1,.p .bool (allF h l).2] }
attribute [local go_sem] all11S
theorem all11_ok:FnOk Tryz.prog 22 all11S:=by
 refine fn_ok Tryz.func22 (by kernel_rfl) rfl Tryz.ntmps22 (by decide) (by kernel_rfl) (tyTab_ok [(59,atomS),(19,uni11S)]) (fns_cons atom_ok (fns_cons uni11_ok fns_nil)) ?_
 rintro w0 O0 ⟨h,l,u⟩ hc - ⟨⟨hu,hn,ht⟩,hl,hx⟩
 simp only [all11S,entEnv]
 repeat' (first | exact trivial | refine eS rfl ?_ | refine ev_out_inv ?_ | refine rX [0,1,2,4,5,6,7,8,9,12,20,34] hc ?_ ?_ | (refine rC (fun hcond=>?_) (fun hcond=>?_)<;>try (cases hcond;done)))
 ·have hl0:l=[]:=List.eq_nil_of_length_eq_zero (by exact eV)
  subst hl0
  exact ev_fin hc [.cell 4 25,.tmp 5] rfl (.inl rfl) (by simp) (by first | exact eR | refine eRM ?_;exact ⟨rfl,rfl⟩)
 ·have h1:(List.length l:Int)≠0:=hcond
  have h2:0≤(List.length l:Int):=Int.natCast_nonneg _
  dsimp only [Ty.den] at *
  omega
 ·have hl0:0 < List.length l:=by
   have h1:(List.length l:Int)≠0:=hcond
   have h2:0≤(List.length l:Int):=Int.natCast_nonneg _
   dsimp only [Ty.den] at *
   omega
  have hm0:=hx _ (mem_of_take_succ (l:List (List GNode)) [] hl0)
  have hst:allF h l=unifsF h (List.getD l 0 []) (List.drop 1 l):=by
   cases l with
   | nil=>exact absurd hl0 (by simp)
   | cons g r=>rfl
  refine ev_loop (ι:={s:Nat×List GNode // (1≤s.1∧s.1≤List.length l)∧(VF h s.2∧s.2.length≤12 * s.1)∧allF h l=unifsF h s.2 (List.drop s.1 l)}) (fun s=>⟨[(1,.p T37 l),(2,.bp 2 [] 0),(4,.bp 4 [] 0),(5,.p .bool false),(6,.bp 6 [] 0),(7,.p (.int .i64) (s.1.1:Int))],[(2,.box 29 true [.p T26 h.1,.p T27 h.2]),(4,.box 25 true [.raw (.slice none 0 0)]),(6,.box 25 true [.p T23 s.1.2])]⟩) (fun s=>List.length l - s.1.1) ⟨(1,List.getD l 0 []),⟨by simp,hl0⟩,⟨hm0.1,hm0.2⟩,hst⟩ (ent_match [(2,.nm 2),(4,.nm 4),(6,.nm 6)] rfl rfl ?_ ?_) (fun s=>?_)
  ·first | exact eN | refine eM ?_
  ·first | exact eN | refine eM ?_
   rfl
  ·obtain ⟨⟨k,g⟩,⟨hk1,hk⟩,⟨hg,hgl⟩,he⟩:=s
   simp only at hk1 hk hg hgl he ⊢
   have hrd:=fun h:k < List.length l=>hx _ (mem_of_take_succ (l:List (List GNode)) [] h)
   have hdr:k < List.length l→unifsF h g (List.drop k l)=if (unifyF h g (List.getD l k [])).2=true then unifsF h (unifyF h g (List.getD l k [])).1 (List.drop (k + 1) l) else ([],false):=fun hk2=>by
    rw [List.drop_eq_getElem_cons hk2]
    simp only [unifsF]
    rw [List.getD_eq_getElem?_getD,List.getElem?_eq_getElem hk2]
    rfl
   have hue:k < List.length l→uni11F h g (List.getD l k [])=unifyF h g (List.getD l k []):=fun hk2=>by
    have:=hrd hk2
    exact uni11_eq hu hn ht hg this.1 (by exact eV)
   have hh:((h.1,h.2):HierD)=h:=rfl
   repeat' (first | exact trivial | refine eS rfl ?_ | refine ev_out_inv ?_ | refine rP [0,1,2,4,5,6,7,8,9,12,20,34] hc ?_ ?_ | fail)
   refine rC (fun hcond=>?_) (fun hcond=>?_)<;>try (cases hcond;done)
   ·repeat' (first | exact trivial | refine eS rfl ?_ | refine ev_out_inv ?_ | refine rP [0,1,2,4,5,6,7,8,9,12,20,34] hc ?_ ?_ | fail)
    refine ev_mix drawsAny hc 12 [([0,1,2,3,4,5,6,7,8,10],11)] [9] (by kernel_rfl) (mxA ?_ ?_)
    ·rw [hh]
     have hk2:k < List.length l:=by exact eV
     have:=hrd hk2
     exact ⟨hcond,hu,hg,this.1,by exact eV⟩
    ·refine mxL hc [] ?_ ?_
     ·trivial
     ·refine mxE [0,1,2,4,5,6,7,8,9,12,20,34] hc ?_ ?_ ?_
      ·trivial
      ·trivial
      ·have hk2:k < List.length l:=by exact eV
       simp only [hh]
       rw [hue hk2]
       repeat' (first | exact trivial | refine eS rfl ?_ | refine ev_out_inv ?_ | refine rX [0,1,2,4,5,6,7,8,9,12,20,34] hc ?_ ?_ | (refine rC (fun hcond=>?_) (fun hcond=>?_)<;>try (cases hcond;done)))
       ·rw [hdr hk2,if_neg (by rw [hcond];simp)] at he
        exact ev_fin hc [.cell 4 25,.tmp 5] rfl (.inl rfl) (by simp) (by rw [he];first | exact eR | refine eRM ?_)
       ·exact eV
       ·have hU:=unifyF_true hcond
        have h1:=hrd hk2
        have hul:=hU.len
        rw [hdr hk2,if_pos hcond] at he
        refine ⟨⟨(k + 1,(unifyF h g (List.getD l k [])).1),⟨by simp only;omega,hk2⟩,⟨hU.vf,by simp only;omega⟩,he⟩,by simp only;omega,ent_match [(2,.nm 2),(4,.nm 4),(6,.nm 6)] rfl rfl ?_ ?_⟩
        ·first | exact eN | refine eM ?_
        ·first | exact eN | refine eM ?_
   ·repeat' (first | exact trivial | refine eS rfl ?_ | refine ev_out_inv ?_ | refine rX [0,1,2,4,5,6,7,8,9,12,20,34] hc ?_ ?_ | (refine rC (fun hcond=>?_) (fun hcond=>?_)<;>try (cases hcond;done)))
    have hk2:List.drop k l=[]:=List.drop_eq_nil_of_le (by exact eV)
    rw [hk2] at he
    rw [he]
    exact ev_fin hc [.cell 4 25,.tmp 5] rfl (.inl rfl) (by simp) (by first | exact eR | refine eRM ?_;exact ⟨rfl,rfl⟩)
end
/- What the laws of layer 11 share. -/
section
theorem hier11_h (d:List DeclD):H11 (hier11F d):=by
 unfold hier11F
 split
 ·exact compile_h11 d
 ·exact compile_h11 preludeF
theorem fits_VF {d:List DeclD} {l:List (List GNode)} (h:fitsF (hier11F d) l=true):∀ x∈l,VF (hier11F d) x∧x.length≤12:=fun x hx=>by
 have hh:=hier11_h d
 exact valid_VF hh.b1 hh.hu.ft (List.all_eq_true.1 h x hx)
theorem he2 (h:HierD):(h.1,h.2)=h:=rfl
theorem compile_nd (d:List DeclD):Nd ((compileF d).1.1.map fun t=>t.2.1):=by
 unfold compileF
 split
 ·exact ⟨.nil,fun c h=>(by cases h)⟩
 ·rename_i hv
  have hv:(valuesF d).2=0:=Classical.byContradiction hv
  have h5:check5F d=0:=by
   unfold valuesF at hv
   split at hv
   ·rename_i h;exact absurd hv h
   ·rename_i h;exact Classical.byContradiction h
  obtain ⟨hz,-,-⟩:=check5_zero h5
  obtain ⟨h3,hlen,-⟩:=codesF_zero hz
  have hf:Nd (familyF (codesL d)):=famG_nd (codesL_nd h3)
  have e:((hierV d).1.map fun t=>t.2.1)=(codesR d).map fun x=>x.2:=by
   show ((typeG _ _ _).map fun t=>t.2.1)=_
   unfold typeG
   rw [List.map_map]
   apply List.ext_getElem
   ·simp
   ·intro i h1 h2
    simp [List.getD_eq_getElem?_getD,show i < (codesR d).length by simpa using h1]
  show Nd ((hierV d).1.map fun t=>t.2.1)
  rw [e]
  refine ⟨coded_nodup (by simpa using hf.nd),fun c hc=>?_⟩
  obtain ⟨x,hx,rfl⟩:=List.mem_map.1 hc
  obtain ⟨b,hb,rfl⟩:=codesR_mem.1 hx
  exact hf.nrm b hb
end
/- Functions of path: Under, step, At. -/
section
def shN (b:Nat) (g:List GNode) (i:Nat):List GNode:=(g.take i).map fun x:GNode=>(x.1,shiftA b x.2)
theorem shN_succ (b:Nat) (g:List GNode) {i:Nat} (h:i < g.length):shN b g (i + 1)=shN b g i++[((g.getD i (0,[])).1,shiftA b (g.getD i (0,[])).2)]:=by
 unfold shN
 rw [take_snoc g (0,[]) h,List.map_append]
 rfl
theorem shN_all (b:Nat) (g:List GNode):shN b g g.length=g.map fun x:GNode=>(x.1,shiftA b x.2):=by
 unfold shN
 rw [List.take_length]
theorem shN_len (b:Nat) (g:List GNode) {i:Nat} (h:i≤g.length):(shN b g i).length=i:=by
 unfold shN
 rw [List.length_map,List.length_take]
 omega
def underS:Spec:={ ins:=[T40,T25],pre:=fun (p,g,_)=>List.length p≤1000∧GoodF g,out:=fun (p,g,_)=>[.p T25 (underF p g)] }
theorem under_ok:FnOk Tryz.prog 71 underS:=by
 refine fn_ok Tryz.func71 (by kernel_rfl) rfl Tryz.ntmps71 (by decide) (by kernel_rfl) (tyTab_ok [] [26]) fns_nil ?_
 rintro w0 O0 ⟨p,g,u⟩ hc - ⟨hp,hg⟩
 have hgl:=hg.1
 simp only [underS,entEnv]
 repeat' (first | exact trivial | refine eS rfl ?_ | refine ev_out_inv ?_ | refine rX [0,1,3,4,5,6,7,9,10,12,13,14,15,16,33,34,35,36,43,44,45,46] hc ?_ ?_ | (refine rC (fun hcond=>?_) (fun hcond=>?_)<;>try (cases hcond;done)))
 refine ev_loop (ι:={k:Nat // k≤p.length}) (fun k=>⟨[(0,.p T40 p),(3,.bp 3 [] 0),(4,.bp 4 [] 0),(5,.bp 5 [] 0),(13,.p T40 p),(14,.p (.int .i64) (p.length:Int)),(15,.p (.int .i64) (k.1:Int))],[(3,.box 25 true [.p T23 g]),(4,.box 25 true [.raw (.slice none 0 0)]),(5,.box 25 true [.sr 29 T88 0 (chainF p k.1).length]),(29,.arr 88 T88 (chainF p k.1))]⟩) (fun k=>p.length - k.1) ⟨0,Nat.zero_le _⟩ (ent_match [(3,.nm 3),(4,.nm 4),(5,.nm 5),(29,.nil)] rfl rfl ?_ ?_) (fun k=>?_)
 ·first | exact eN | refine eM ?_
  exact ⟨rfl,rfl⟩
 ·first | exact eN | refine eM ?_
 ·obtain ⟨k,hk⟩:=k
  have hcl:=chainF_len p k
  repeat' (first | exact trivial | refine eS rfl ?_ | refine ev_out_inv ?_ | refine rX [0,1,3,4,5,6,7,9,10,12,13,14,15,16,33,34,35,36,43,44,45,46] hc ?_ ?_ | (refine rC (fun hcond=>?_) (fun hcond=>?_)<;>try (cases hcond;done)))
  ·exact hcond
  ·have hk2:k < p.length:=Int.ofNat_lt.1 hcond
   refine ⟨⟨by omega,by omega⟩,?_⟩
   rw [hcl]
   simp only [maxN]
   omega
  ·omega
  ·have hk2:k < p.length:=Int.ofNat_lt.1 hcond
   have hs:=chainF_succ p k
   refine ⟨⟨k + 1,hk2⟩,by simp only;omega,ent_match [(3,.nm 3),(4,.nm 4),(5,.nm 5),(29,.nm 29)] rfl rfl ?_ ?_⟩
   ·simp only [hs]
    first | exact eN | refine eM ?_
   ·first | exact eN | refine eM ?_
  ·have hke:k=p.length:=by
    have:=Int.ofNat_le.1 hcond
    omega
   subst hke
   obtain ⟨ch0,hch0⟩:∃ c,chainF p p.length=c:=⟨_,rfl⟩
   have hchl:=chainF_len p p.length
   have hund:ch0++g.map (fun x:GNode=>(x.1,shiftA p.length x.2))=underF p g:=by rw [← hch0];rfl
   generalize chainF p p.length=ch at *
   subst hch0
   refine ev_loop (ι:={i:Nat // i≤g.length}) (fun i=>⟨[(0,.p T40 p),(3,.bp 3 [] 0),(4,.bp 4 [] 0),(5,.bp 5 [] 0),(33,.p T23 g),(34,.p (.int .i64) (g.length:Int)),(35,.p (.int .i64) (i.1:Int))],[(3,.box 25 true [.p T23 g]),(4,.box 25 true [.raw (.slice none 0 0)]),(5,.box 25 true [.sr 29 T88 0 (ch++shN p.length g i.1).length]),(29,.arr 88 T88 (ch++shN p.length g i.1))]⟩) (fun i=>g.length - i.1) ⟨0,Nat.zero_le _⟩ (ent_match [(3,.nm 3),(4,.nm 4),(5,.nm 5),(29,.nm 29)] rfl rfl ?_ ?_) (fun i=>?_)
   ·have e0:ch++shN p.length g 0=ch:=by simp [shN]
    simp only [e0]
    first | exact eN | refine eM ?_
   ·first | exact eN | refine eM ?_
   ·obtain ⟨i,hi⟩:=i
    have hsl:=shN_len p.length g hi
    have hss:=fun h:i < g.length=>shN_succ p.length g h
    simp only
    generalize hos:shN p.length g i=os at *
    repeat' (first | exact trivial | refine eS rfl ?_ | refine ev_out_inv ?_ | refine rX [0,1,3,4,5,6,7,9,10,12,13,14,15,16,33,34,35,36,43,44,45,46] hc ?_ ?_ | (refine rC (fun hcond=>?_) (fun hcond=>?_)<;>try (cases hcond;done)))
    ·exact hcond
    ·have hi2:i < g.length:=Int.ofNat_lt.1 hcond
     have hrng:=node_rng hg i
     have hxl:(g.getD i (0,[])).2.length≤100000:=(hg.2 _ (mem_of_take_succ g (0,[]) hi2)).1
     generalize hx:g.getD i (0,[])=x at *
     obtain ⟨xt,xs⟩:=x
     simp only at hrng hxl hss ⊢
     refine ev_loop (ι:={j:Nat // j≤xs.length}) (fun j=>⟨[(0,.p T40 p),(3,.bp 3 [] 0),(4,.bp 4 [] 0),(5,.bp 5 [] 0),(10,.bp 10 [] 0),(33,.p T23 g),(34,.p (.int .i64) (g.length:Int)),(35,.p (.int .i64) (i:Int)),(43,.p T86 xs),(44,.p (.int .i64) (xs.length:Int)),(45,.p (.int .i64) (j.1:Int))],[(3,.box 25 true [.p T23 g]),(4,.box 25 true [.raw (.slice none 0 0)]),(5,.box 25 true [.sr 29 T88 0 (ch++os).length]),(29,.arr 88 T88 (ch++os)),(10,.box 88 true [.p T3 xt,.sr 60 T108 0 (shiftA p.length (xs.take j.1)).length]),(60,.arr 108 T108 (shiftA p.length (xs.take j.1)))]⟩) (fun j=>xs.length - j.1) ⟨0,Nat.zero_le _⟩ (ent_match [(3,.nm 3),(4,.nm 4),(5,.nm 5),(29,.nm 29),(10,.nm 10),(60,.nil)] rfl rfl ?_ ?_) (fun j=>?_)
     ·first | exact eN | refine eM ?_
      exact ⟨rfl,rfl⟩
     ·first | exact eN | refine eM ?_
     ·obtain ⟨j,hj⟩:=j
      have hal:(shiftA p.length (xs.take j)).length=j:=by unfold shiftA;rw [List.length_map,List.length_take];omega
      have has:=fun h:j < xs.length=>map_take_succ (fun a:Int×Int=>(a.1,a.2 + (p.length:Int))) xs (0,0) h
      simp only
      repeat' (first | exact trivial | refine eS rfl ?_ | refine ev_out_inv ?_ | refine rX [0,1,3,4,5,6,7,9,10,12,13,14,15,16,33,34,35,36,43,44,45,46] hc ?_ ?_ | (refine rC (fun hcond=>?_) (fun hcond=>?_)<;>try (cases hcond;done)))
      ·exact hcond
      ·have hj2:j < xs.length:=Int.ofNat_lt.1 hcond
       have hr:=hrng _ (mem_of_take_succ xs (0,0) hj2)
       refine ⟨⟨by omega,by omega⟩,?_⟩
       rw [hal]
       simp only [maxN]
       omega
      ·omega
      ·have hj2:j < xs.length:=Int.ofNat_lt.1 hcond
       have has2:shiftA p.length (xs.take (j + 1))=shiftA p.length (xs.take j)++[((xs.getD j (0,0)).1,(xs.getD j (0,0)).2 + (p.length:Int))]:=has hj2
       refine ⟨⟨j + 1,hj2⟩,by simp only;omega,ent_match [(3,.nm 3),(4,.nm 4),(5,.nm 5),(29,.nm 29),(10,.nm 10),(60,.nm 60)] rfl rfl ?_ ?_⟩
       ·simp only [has2]
        first | exact eN | refine eM ?_
       ·first | exact eN | refine eM ?_
      ·rw [hchl,hsl]
       simp only [maxN]
       omega
      ·omega
      ·have hj2:xs.take j=xs:=List.take_of_length_le (Int.ofNat_le.1 hcond)
       have hss2:=hss hi2
       rw [hj2]
       refine ⟨⟨i + 1,hi2⟩,by simp only;omega,ent_match [(3,.nm 3),(4,.nm 4),(5,.nm 5),(29,.nm 29)] rfl rfl ?_ ?_⟩
       ·simp only [hss2,← List.append_assoc]
        first | exact eN | refine eM ?_
       ·first | exact eN | refine eM ?_
    ·have hie:i=g.length:=by
      have:=Int.ofNat_le.1 hcond
      omega
     subst hie
     rw [shN_all] at hos
     rw [hos] at hund
     exact ev_fin hc [.cell 4 25] rfl (.inl rfl) (by simp) (by rw [← hund];first | exact eR | refine eRM ?_)
end
/- Functions of unify: Equate. -/
section
attribute [local go_sem] gatomS underS
theorem types_join2 (N g:List GNode):typesN N++typesG g g.length=typesN (joinN N g):=by
 unfold typesG typesN joinN
 rw [List.take_length,List.map_append,List.map_map]
 rfl
theorem arcs_join2 (N g:List GNode):arcsN N++arcsU N.length g g.length=arcsN (joinN N g):=by
 unfold arcsU arcsN joinN
 rw [List.take_length,List.map_append,List.map_map]
 rfl
theorem under_atom (p:List Int):underF p [((0:Int),[])]=pathF p:=rfl
theorem eqt_none {h:HierD} (ht:HTop h) {f:List GNode} {p q:List Int} (hf:VF h f) (hp:p.length≤1000) (hq:q.length≤1000) (hl:f.length≤10000) {P:List (Int×Int)} (hP:∀ r∈P,r∈eqP f p q) (hno:∀ X v,TyOk h X→¬ XOk h (eqN f p q) P X v):eqtF h f p q=([],false):=by
 refine eqtF_none fun X hX m1 h1 n hn1 hn2=>?_
 obtain ⟨v,hv,-⟩:=eqt_xok ht hf hp hq hl hX h1 hn1 hn2
 exact hno X v hX.ty ⟨hv.rng,hv.ty,hv.arc,fun r hr=>hv.eq r (hP r hr)⟩
noncomputable def eqtS:Spec:={ ins:=[T29,T25,T40,T40],pre:=fun (h,f,p,q,_)=>HU h∧HTop h∧VF h f∧FtP h p∧FtP h q∧List.length p≤1000∧List.length q≤1000∧List.length f≤1000,out:=fun (h,f,p,q,_)=>[.p T25 (eqtF h f p q).1,.p .bool (eqtF h f p q).2] }
attribute [local go_sem] eqtS
theorem eqt_ok:FnOk Tryz.prog 24 eqtS:=by
  refine fn_ok Tryz.func24 (by kernel_rfl) rfl Tryz.ntmps24 (by decide) (by kernel_rfl) (tyTab_ok [(70,gatomS),(71,underS)]) (fns_cons gatom_ok (fns_cons under_ok fns_nil)) ?_
  rintro w0 O0 ⟨h,f,p,q,u⟩ hc - ⟨hu,ht,vf,fp,fq,hp,hq,hfl⟩
  simp only [eqtS,entEnv]
  have gA:GoodF ([((0:Int),[])]:List GNode):=⟨by simp,by simp⟩
  have hp2:p.length≤1000:=hp
  have hq2:q.length≤1000:=hq
  have hfl2:f.length≤1000:=hfl
  have gp:=pathF_good hp2
  have gq:=pathF_good hq2
  have lpp:=pathF_len p
  have lpq:=pathF_len q
  have h10:0 < h.1.length:=by
    have:=vf.ty _ (mem_of_take_succ f (0,[]) vf.pos)
    omega
  have pos:=vf.pos
  have hNl:=eqN_len f p q
  have j1:=joinN_len f (pathF p)
  rw [lpp] at j1
  have gN1:=joinN_good vf.good gp (by omega)
  have gN:=joinN_good gN1 gq (by omega)
  have tN:=joinN_ty (joinN_ty vf.ty (pathF_ty h10 p)) (pathF_ty h10 q)
  have sN:=joinN_str (joinN_str vf.str (pathF_str p)) (pathF_str q)
  have h64:∀ g:List GNode,(∀ x∈g,∀ a∈x.2,0≤a.1∧a.1 < (h.2.length:Int))→Ft64 g:=fun g hg x hx a ha=>by
    have h1:=hg x hx a ha
    have h2:=hu.ft
    omega
  have fN:=joinN_ft (joinN_ft (vf.ft64 hu) (h64 _ (pathF_ft fp))) (h64 _ (pathF_ft fq))
  have hji:=ji_init gN tN sN
  have hfn:=featsN_len (N:=eqN f p q) fun x hx=>str_64 (sN x hx) (fN x hx)
  have hof:=fun P ty ar hj hQ=>eqt_of ht vf fp fq hp2 hq2 (by omega) (P:=P) (ty:=ty) (ar:=ar) hj hQ
  have hno:=fun P hP=>eqt_none ht vf hp2 hq2 (by omega) (P:=P) hP
  have hpa:=under_atom p
  have hqa:=under_atom q
  repeat' (first | exact trivial | refine eS rfl ?_ | refine ev_out_inv ?_ | refine rX [0,1,2,3,4,5,8,9,10,11,12,13,14,69] hc ?_ ?_ | (refine rC (fun hcond=>?_) (fun hcond=>?_)<;>try (cases hcond;done)))
  · exact ⟨⟨hp2,gA⟩,hq2,gA⟩
  · rw [hpa,hqa]
    unfold eqN at hNl hfn hof hno
    generalize hA:pathF p=A at *
    generalize hB:pathF q=B at *
    have eT1:typesG f f.length++typesG A A.length=typesN (joinN f A):=types_join f A
    have eR1:arcsU 0 f f.length++arcsU f.length A A.length=arcsN (joinN f A):=arcs_join f A
    have eN1:numsG 0 f.length++numsG f.length A.length=numsG 0 (joinN f A).length:=by rw [numsG_app,joinN_len]
    have eT2:=types_join2 (joinN f A) B
    have eR2:=arcs_join2 (joinN f A) B
    have eN2:numsG 0 (joinN f A).length++numsG (joinN f A).length B.length=numsG 0 (joinN (joinN f A) B).length:=by rw [numsG_app,← joinN_len]
    refine cP 3 hc ?_ ?_
    · trivial
    · refine rM hc (add_ok h [] [] [] f vf.good (by simp) rfl rfl) [(1,.nm 23),(2,.nil),(3,.nil),(4,.nil)] [] ?_ ?_ ?_
      · first | exact eN | refine eM ?_
      · simp only [clO]
        first | exact eN | refine eM ?_
      · rintro _ _ ⟨rfl,rfl⟩
        refine ⟨[(23, .nm 1), (102, .nm 2), (103, .nm 3), (104, .nm 4)], .raw (.tuple #[]),
                [(23,.box 94 true [.p T29 h,.sr 102 T3 0 (numsG 0 f.length).length,.sr 103 T3 0 (typesG f f.length).length,.sr 104 T86 0 (arcsU 0 f f.length).length]),(102,.arr 3 T3 (numsG 0 f.length)),(103,.arr 3 T3 (typesG f f.length)),(104,.arr 86 T86 (arcsU 0 f f.length))]
          ,rfl,rfl,?_,?_,rfl,rfl,evL_end ?_⟩
        · simp only [clO]
          first | exact eN | refine eM ?_
        · first | exact eN | refine eM ?_
        · have la:(numsG 0 f.length).length=f.length:=numsG_len 0 f.length
          have lt:(typesG f f.length).length=f.length:=by unfold typesG;rw [List.length_map,List.take_length]
          have lr:(arcsU 0 f f.length).length=f.length:=by unfold arcsU;rw [List.length_map,List.take_length]
          repeat' (first | exact trivial | refine eS rfl ?_ | refine ev_out_inv ?_ | refine rX [0,1,2,3,4,5,8,9,10,11,12,13,14,69] hc ?_ ?_ | (refine rC (fun hcond=>?_) (fun hcond=>?_)<;>try (cases hcond;done)))
          refine cP 3 hc ?_ ?_
          · trivial
          · refine rM hc (add_ok h (numsG 0 f.length) (typesG f f.length) (arcsU 0 f f.length) A gp (by omega) (by omega) (by omega)) [(1,.nm 23),(2,.nm 102),(3,.nm 103),(4,.nm 104)] [102,103,104] ?_ ?_ ?_
            · first | exact eN | refine eM ?_
            · simp only [clO]
              first | exact eN | refine eM ?_
            · rintro _ _ ⟨rfl,rfl⟩
              rw [la,eN1,eT1,eR1]
              have la1:(numsG 0 (joinN f A).length).length=(joinN f A).length:=numsG_len 0 _
              have lt1:(typesN (joinN f A)).length=(joinN f A).length:=by unfold typesN;rw [List.length_map]
              have lr1:(arcsN (joinN f A)).length=(joinN f A).length:=by unfold arcsN;rw [List.length_map]
              refine ⟨[(23,.nm 1),(102,.nm 2),(103,.nm 3),(104,.nm 4)],.raw (.tuple #[]),
                [(23,.box 94 true [.p T29 h,.sr 102 T3 0 (numsG 0 (joinN f A).length).length,.sr 103 T3 0 (typesN (joinN f A)).length,.sr 104 T86 0 (arcsN (joinN f A)).length]),(102,.arr 3 T3 (numsG 0 (joinN f A).length)),(103,.arr 3 T3 (typesN (joinN f A))),(104,.arr 86 T86 (arcsN (joinN f A)))]
                ,rfl,rfl,?_,?_,rfl,rfl,evL_end ?_⟩
              · simp only [clO]
                first | exact eN | refine eM ?_
              · first | exact eN | refine eM ?_
              · repeat' (first | exact trivial | refine eS rfl ?_ | refine ev_out_inv ?_ | refine rX [0,1,2,3,4,5,8,9,10,11,12,13,14,69] hc ?_ ?_ | (refine rC (fun hcond=>?_) (fun hcond=>?_)<;>try (cases hcond;done)))
                refine cP 3 hc ?_ ?_
                · trivial
                · refine rM hc (add_ok h (numsG 0 (joinN f A).length) (typesN (joinN f A)) (arcsN (joinN f A)) B gq (by omega) (by omega) (by omega)) [(1,.nm 23),(2,.nm 102),(3,.nm 103),(4,.nm 104)] [102,103,104] ?_ ?_ ?_
                  · first | exact eN | refine eM ?_
                  · simp only [clO]
                    first | exact eN | refine eM ?_
                  · rintro _ _ ⟨rfl,rfl⟩
                    rw [la1,eN2,eT2,eR2]
                    have e14:(((joinN f A).length:Nat):Int)=((f.length + (p.length + 1):Nat):Int):=by omega
                    refine ⟨[(23,.nm 1),(102,.nm 2),(103,.nm 3),(104,.nm 4)],.raw (.tuple #[]),
                [(23, .box 94 true [.p T29 h, .sr 102 T3 0 (numsG 0 (joinN (joinN f A) B).length).length, .sr 103 T3 0 (typesN (joinN (joinN f A) B)).length, .sr 104 T86 0 (arcsN (joinN (joinN f A) B)).length]), (102, .arr 3 T3 (numsG 0 (joinN (joinN f A) B).length)), (103, .arr 3 T3 (typesN (joinN (joinN f A) B))), (104, .arr 86 T86 (arcsN (joinN (joinN f A) B)))]
                      ,rfl,rfl,?_,?_,rfl,rfl,evL_end ?_⟩
                    · simp only [clO]
                      first | exact eN | refine eM ?_
                    · first | exact eN | refine eM ?_
                    · clear la lt lr la1 lt1 lr1 eT1 eR1 eN1 eT2 eR2 eN2
                      rw [e14]
                      have hlA:A.length=p.length + 1:=lpp
                      have hlB:B.length=q.length + 1:=lpq
                      generalize joinN (joinN f A) B=NN at *
                      generalize numsG 0 NN.length=p0 at *
                      generalize typesN NN=t0 at *
                      generalize arcsN NN=r0 at *
                      have k1:0 < NN.length:=by omega
                      repeat' (first | exact trivial | refine eS rfl ?_ | refine ev_out_inv ?_ | refine rX [0,1,2,3,4,5,8,9,10,11,12,13,14,69] hc ?_ ?_ | (refine rC (fun hcond=>?_) (fun hcond=>?_)<;>try (cases hcond;done)))
                      refine evP hc 2 ?_ ?_
                      · trivial
                      · refine clG hc (join_ok h hu.ok hji (a:=0) (b:=(f.length:Int)) (by omega) (by omega) (by omega) (by omega)) [(101,.nm 23),(102,.nm 102),(103,.nm 103),(104,.nm 104)] [102,103,104] ?_ ?_ ?_
                        · first | exact eN | refine eM ?_
                        · simp only [clJ]
                          first | exact eN | refine eM ?_
                        · rintro res objs' (⟨rfl,p1,t1,r1,rfl,hj1⟩ | ⟨rfl,⟨p1,t1,r1,rfl⟩,hno1⟩)
                          · refine ⟨[(23,.nm 101),(102,.nm 102),(103,.nm 103),(104,.nm 104)],.p .bool true,
                [(23, .box 94 true [.p T29 h, .sr 102 T3 0 p1.length, .sr 103 T3 0 t1.length, .sr 104 T86 0 r1.length]), (102, .arr 3 T3 p1), (103, .arr 3 T3 t1), (104, .arr 86 T86 r1)]
                              ,rfl,rfl,?_,?_,rfl,rfl,?_⟩
                            · simp only [clJ]
                              first | exact eN | refine eM ?_
                            · first | exact eN | refine eM ?_
                            · refine rN 5 hc ?_ ?_
                              · trivial
                              · refine clG hc (join_ok h hu.ok hj1 (a:=(f.length:Int)) (b:=((f.length + (p.length + 1):Nat):Int)) (by omega) (by omega) (by omega) (by omega)) [(101,.nm 23),(102,.nm 102),(103,.nm 103),(104,.nm 104)] [102,103,104] ?_ ?_ ?_
                                · first | exact eN | refine eM ?_
                                · simp only [clJ]
                                  first | exact eN | refine eM ?_
                                · rintro res objs' (⟨rfl,p2,t2,r2,rfl,hj2⟩ | ⟨rfl,⟨p2,t2,r2,rfl⟩,hno2⟩)
                                  · refine ⟨[(23,.nm 101),(102,.nm 102),(103,.nm 103),(104,.nm 104)],.p .bool true,
                [(23, .box 94 true [.p T29 h, .sr 102 T3 0 p2.length, .sr 103 T3 0 t2.length, .sr 104 T86 0 r2.length]), (102, .arr 3 T3 p2), (103, .arr 3 T3 t2), (104, .arr 86 T86 r2)]
                                      ,rfl,rfl,?_,?_,rfl,rfl,?_⟩
                                    · simp only [clJ]
                                      first | exact eN | refine eM ?_
                                    · first | exact eN | refine eM ?_
                                    · refine rN 12 hc ?_ ?_
                                      · exact eV
                                      · refine clG hc (join_ok h hu.ok hj2 (a:=(f.length:Int) + (p.length:Int)) (b:=((f.length + (p.length + 1):Nat):Int) + (q.length:Int)) (by omega) (by omega) (by omega) (by omega)) [(101,.nm 23),(102,.nm 102),(103,.nm 103),(104,.nm 104)] [102,103,104] ?_ ?_ ?_
                                        · first | exact eN | refine eM ?_
                                        · simp only [clJ]
                                          first | exact eN | refine eM ?_
                                        · have eP:[]++[(0,(f.length:Int))]++[((f.length:Int),((f.length + (p.length + 1):Nat):Int))]++[((f.length:Int) + (p.length:Int),((f.length + (p.length + 1):Nat):Int) + (q.length:Int))]=eqP f p q:=by
                                            rw [show (f.length:Int) + (p.length:Int)=((f.length + p.length:Nat):Int) by omega,show ((f.length + (p.length + 1):Nat):Int) + (q.length:Int)=((f.length + (p.length + 1) + q.length:Nat):Int) by omega]
                                            rfl
                                          rw [eP]
                                          rintro res objs' (⟨rfl,p3,t3,r3,rfl,hj3⟩ | ⟨rfl,⟨p3,t3,r3,rfl⟩,hno3⟩)
                                          · have hQ:=quo_good hj3 (by omega) fN
                                            have hUn:=eqtF_some hu (hof p3 t3 r3 hj3 hQ)
                                            refine ⟨[(23,.nm 101),(102,.nm 102),(103,.nm 103),(104,.nm 104)],.p .bool true,
                [(23, .box 94 true [.p T29 h, .sr 102 T3 0 p3.length, .sr 103 T3 0 t3.length, .sr 104 T86 0 r3.length]), (102, .arr 3 T3 p3), (103, .arr 3 T3 t3), (104, .arr 86 T86 r3)]
                                              ,rfl,rfl,?_,?_,rfl,rfl,?_⟩
                                            · simp only [clJ]
                                              first | exact eN | refine eM ?_
                                            · first | exact eN | refine eM ?_
                                            · refine rL [0,1,2,3,4,5,8,9,10,11,12,13,14,69] hc ?_ ?_
                                              · trivial
                                              · repeat' (first | exact trivial | refine eS rfl ?_ | refine ev_out_inv ?_ | refine rX [0,1,2,3,4,5,8,9,10,11,12,13,14,69] hc ?_ ?_ | (refine rC (fun hcond=>?_) (fun hcond=>?_)<;>try (cases hcond;done)))
                                                refine cP 1 hc ?_ ?_
                                                · trivial
                                                · refine rM hc (graph_ok h hj3.fo hQ (by rw [hj3.lt,hj3.lp]) (by rw [hj3.la,hj3.lp]) (fun k x hx=>by rw [hj3.lp];exact (hj3.arr k x hx).1) (r:=0) (by omega) (by rw [hj3.lp];omega)) [(101,.nm 23),(102,.nm 102),(103,.nm 103),(104,.nm 104)] [23,102,103,104] ?_ ?_ ?_
                                                  · first | exact eN | refine eM ?_
                                                  · simp only [clJ]
                                                    first | exact eN | refine eM ?_
                                                  · rintro _ objs' rfl
                                                    refine ⟨[],.p T25 (canonicalF (quo p3 t3 r3) (rtF p3 0)),[],rfl,rfl,?_,?_,rfl,rfl,?_⟩
                                                    · first | exact eN | refine eM ?_
                                                    · first | exact eN | refine eM ?_
                                                    · refine rL [0,1,2,3,4,5,8,9,10,11,12,13,14,69] hc ?_ ?_
                                                      · trivial
                                                      · repeat' (first | exact trivial | refine eS rfl ?_ | refine ev_out_inv ?_ | refine rX [0,1,2,3,4,5,8,9,10,11,12,13,14,69] hc ?_ ?_ | (refine rC (fun hcond=>?_) (fun hcond=>?_)<;>try (cases hcond;done)))
                                                        exact ev_fin hc [.cell 8 25,.tmp 9] rfl (.inl rfl) (by simp) (by rw [hUn];first | exact eR | refine eRM ?_)
                                          · have hUn:=hno (eqP f p q) (fun _ h=>h) hno3
                                            refine ⟨[(23,.nm 101),(102,.nm 102),(103,.nm 103),(104,.nm 104)],.p .bool false,
                [(23, .box 94 true [.p T29 h, .sr 102 T3 0 p3.length, .sr 103 T3 0 t3.length, .sr 104 T86 0 r3.length]), (102, .arr 3 T3 p3), (103, .arr 3 T3 t3), (104, .arr 86 T86 r3)]
                                              ,rfl,rfl,?_,?_,rfl,rfl,?_⟩
                                            · simp only [clJ]
                                              first | exact eN | refine eM ?_
                                            · first | exact eN | refine eM ?_
                                            · refine rL [0,1,2,3,4,5,8,9,10,11,12,13,14,69] hc ?_ ?_
                                              · trivial
                                              · repeat' (first | exact trivial | refine eS rfl ?_ | refine ev_out_inv ?_ | refine rX [0,1,2,3,4,5,8,9,10,11,12,13,14,69] hc ?_ ?_ | (refine rC (fun hcond=>?_) (fun hcond=>?_)<;>try (cases hcond;done)))
                                                exact ev_fin hc [.cell 8 25,.tmp 9] rfl (.inl rfl) (by simp) (by rw [hUn];first | exact eR | refine eRM ?_)
                                  · have hUn:=hno [(0,(f.length:Int)),((f.length:Int),((f.length + (p.length + 1):Nat):Int))] (by simp) hno2
                                    refine ⟨[(23,.nm 101),(102,.nm 102),(103,.nm 103),(104,.nm 104)],.p .bool false,
                [(23, .box 94 true [.p T29 h, .sr 102 T3 0 p2.length, .sr 103 T3 0 t2.length, .sr 104 T86 0 r2.length]), (102, .arr 3 T3 p2), (103, .arr 3 T3 t2), (104, .arr 86 T86 r2)]
                                      ,rfl,rfl,?_,?_,rfl,rfl,?_⟩
                                    · simp only [clJ]
                                      first | exact eN | refine eM ?_
                                    · first | exact eN | refine eM ?_
                                    · refine rL [0,1,2,3,4,5,8,9,10,11,12,13,14,69] hc ?_ ?_
                                      · trivial
                                      · repeat' (first | exact trivial | refine eS rfl ?_ | refine ev_out_inv ?_ | refine rX [0,1,2,3,4,5,8,9,10,11,12,13,14,69] hc ?_ ?_ | (refine rC (fun hcond=>?_) (fun hcond=>?_)<;>try (cases hcond;done)))
                                        exact ev_fin hc [.cell 8 25,.tmp 9] rfl (.inl rfl) (by simp) (by rw [hUn];first | exact eR | refine eRM ?_)
                          · have hUn:=hno [(0,(f.length:Int))] (by simp) hno1
                            refine ⟨[(23,.nm 101),(102,.nm 102),(103,.nm 103),(104,.nm 104)],.p .bool false,
                [(23, .box 94 true [.p T29 h, .sr 102 T3 0 p1.length, .sr 103 T3 0 t1.length, .sr 104 T86 0 r1.length]), (102, .arr 3 T3 p1), (103, .arr 3 T3 t1), (104, .arr 86 T86 r1)]
                              ,rfl,rfl,?_,?_,rfl,rfl,?_⟩
                            · simp only [clJ]
                              first | exact eN | refine eM ?_
                            · first | exact eN | refine eM ?_
                            · refine rL [0,1,2,3,4,5,8,9,10,11,12,13,14,69] hc ?_ ?_
                              · trivial
                              · repeat' (first | exact trivial | refine eS rfl ?_ | refine ev_out_inv ?_ | refine rX [0,1,2,3,4,5,8,9,10,11,12,13,14,69] hc ?_ ?_ | (refine rC (fun hcond=>?_) (fun hcond=>?_)<;>try (cases hcond;done)))
                                exact ev_fin hc [.cell 8 25,.tmp 9] rfl (.inl rfl) (by simp) (by rw [hUn];first | exact eR | refine eRM ?_)
end
/- Plain: unifications that can be computed. -/
section
def findC:Nat→List Int→Int→Int
 | 0,_,n=>n
 | k + 1,p,n=>if par p n=n then n else findC k p (par p n)
def rootC (p:List Int) (n:Int):Bool:=par p (findC 100 p n) == findC 100 p n
theorem findC_rt {p:List Int}:∀ {k:Nat} {n:Int},par p (findC k p n)=findC k p n→Rt p n (findC k p n)
 | 0,n,h=>.base h
 | k + 1,n,h=>by
  unfold findC at h ⊢
  split
  ·rename_i e
   exact .base e
  ·rename_i e
   rw [if_neg e] at h
   exact .step e (findC_rt h)
theorem rootC_rt {p:List Int} {n:Int} (h:rootC p n=true):Rt p n (findC 100 p n):=findC_rt (by unfold rootC at h;simpa using h)
abbrev ClD:=List Int×List Int×List (List (Int×Int))
def joinC (h:HierD):Nat→ClD→List (Int×Int)→Option (Option ClD)
 | 0,_,_=>none
 | k + 1,s,W=>match W.getLast? with
  | none=>some (some s)
  | some w =>
   if (rootC s.1 w.1 && rootC s.1 w.2)=true then
    if findC 100 s.1 w.1=findC 100 s.1 w.2 then joinC h k s W.dropLast
    else if (meetF h (s.2.1.getD (findC 100 s.1 w.1).toNat 0) (s.2.1.getD (findC 100 s.1 w.2).toNat 0)).2=false then some none
    else joinC h k (s.1.set (findC 100 s.1 w.2).toNat (findC 100 s.1 w.1),s.2.1.set (findC 100 s.1 w.1).toNat (meetF h (s.2.1.getD (findC 100 s.1 w.1).toNat 0) (s.2.1.getD (findC 100 s.1 w.2).toNat 0)).1,s.2.2.set (findC 100 s.1 w.1).toNat (mrgF (s.2.2.getD (findC 100 s.1 w.1).toNat []) (s.2.2.getD (findC 100 s.1 w.2).toNat [])).1)
     (W.dropLast++(mrgF (s.2.2.getD (findC 100 s.1 w.1).toNat []) (s.2.2.getD (findC 100 s.1 w.2).toNat [])).2)
   else none
theorem last_eq {α:Type} {W:List α} {w:α} (h:W.getLast?=some w):W=W.dropLast++[w]:=by
 obtain ⟨hne,e⟩:=List.getLast?_eq_some_iff.1 h
 rw [e]
 simp
theorem joinC_ok {h:HierD} (hk:HOk h) {N:List GNode} {P:List (Int×Int)}:∀ (k:Nat) (s:ClD) (W:List (Int×Int)),JI h N P s.1 s.2.1 s.2.2 W →
  (∀ t,joinC h k s W=some (some t)→JI h N P t.1 t.2.1 t.2.2 [])∧(joinC h k s W=some none→∀ X v,TyOk h X→¬ XOk h N P X v)
 | 0,s,W,hj=>⟨fun t e=>(by cases e),fun e=>(by cases e)⟩
 | k + 1,s,W,hj=>by
  unfold joinC
  cases hw:W.getLast? with
  | none =>
   have:W=[]:=List.getLast?_eq_none_iff.1 hw
   subst this
   refine ⟨fun t e=>?_,fun e=>(by cases e)⟩
   have e:s=t:=by simpa using e
   rw [← e]
   exact hj
  | some w =>
   simp only
   have hW:=last_eq hw
   obtain ⟨x,y⟩:=w
   rw [hW] at hj
   by_cases hr:(rootC s.1 x && rootC s.1 y)=true
   ·rw [if_pos hr]
    rw [Bool.and_eq_true] at hr
    have ha:=rootC_rt hr.1
    have hb:=rootC_rt hr.2
    by_cases he:findC 100 s.1 x=findC 100 s.1 y
    ·rw [if_pos he]
     rw [← he] at hb
     exact joinC_ok hk k s _ (ji_skip hj ha hb)
    ·rw [if_neg he]
     by_cases hm:(meetF h (s.2.1.getD (findC 100 s.1 x).toNat 0) (s.2.1.getD (findC 100 s.1 y).toNat 0)).2=false
     ·rw [if_pos hm]
      refine ⟨fun t e=>(by cases e),fun _ X v hX hv=>?_⟩
      have:=(ji_meet hk hj ha hb hX hv).2.1
      rw [hm] at this
      cases this
     ·rw [if_neg hm]
      have hm:(meetF h (s.2.1.getD (findC 100 s.1 x).toNat 0) (s.2.1.getD (findC 100 s.1 y).toNat 0)).2=true:=by simpa using hm
      exact joinC_ok hk k _ _ (ji_merge hk hj ha hb he hm)
   ·rw [if_neg hr]
    exact ⟨fun t e=>(by cases e),fun e=>(by cases e)⟩
def joinsC (h:HierD):ClD→List (Int×Int)→Option (Option ClD)
 | s,[]=>some (some s)
 | s,q :: P=>match joinC h 1000 s [q] with
  | some (some t)=>joinsC h t P
  | r=>r
theorem joinsC_ok {h:HierD} (hk:HOk h) {N:List GNode}:∀ (R P:List (Int×Int)) (s:ClD),(∀ q∈R,(0≤q.1∧q.1 < (N.length:Int))∧(0≤q.2∧q.2 < (N.length:Int)))→JI h N P s.1 s.2.1 s.2.2 [] →
  (∀ t,joinsC h s R=some (some t)→JI h N (P++R) t.1 t.2.1 t.2.2 [])∧(joinsC h s R=some none→∀ X v,TyOk h X→¬ XOk h N (P++R) X v)
 | [],P,s,hr,hj=>⟨fun t e=>by
   have e:s=t:=by simpa [joinsC] using e
   rw [← e,List.append_nil]
   exact hj,fun e=>(by cases e)⟩
 | q :: R,P,s,hr,hj=>by
  obtain ⟨a,b⟩:=q
  have hq:=hr (a,b) (by simp)
  obtain ⟨k1,k2⟩:=joinC_ok hk 1000 s [(a,b)] (ji_start hj hq.1 hq.2)
  have hP:P++(a,b) :: R=P++[(a,b)]++R:=by simp
  unfold joinsC
  rw [hP]
  split
  ·rename_i t ht
   exact joinsC_ok hk R (P++[(a,b)]) t (fun q hq=>hr q (by simp [hq])) (k1 t ht)
  ·rename_i r hno
   refine ⟨fun t e=>absurd e (hno t),fun e X v hX hv=>k2 e X v hX ⟨hv.rng,hv.ty,hv.arc,fun q hq=>hv.eq q (List.mem_append_left _ hq)⟩⟩
def quoC (s:ClD):List GNode:=(List.range s.1.length).map fun k=>(s.2.1.getD k 0,(s.2.2.getD k []).map fun a=>(a.1,findC 100 s.1 a.2))
def rootsC (s:ClD):Bool:=(List.range s.1.length).all fun (k:Nat)=>rootC s.1 (k:Int)
theorem rootsC_rt {h:HierD} {N:List GNode} {P:List (Int×Int)} {s:ClD} (hj:JI h N P s.1 s.2.1 s.2.2 []) (hr:rootsC s=true) {x:Int} (x0:0≤x) (x1:x < (N.length:Int)):findC 100 s.1 x=rtF s.1 x:=by
 unfold rootsC at hr
 rw [List.all_eq_true] at hr
 have hl:=hj.lp
 have:=hr x.toNat (List.mem_range.2 (by omega))
 rw [Int.toNat_of_nonneg x0] at this
 rw [rtF_eq (rootC_rt this)]
theorem quoC_eq {h:HierD} {N:List GNode} {P:List (Int×Int)} {s:ClD} (hj:JI h N P s.1 s.2.1 s.2.2 []) (hr:rootsC s=true):quoC s=quo s.1 s.2.1 s.2.2:=by
 unfold quoC quo
 refine List.map_congr_left fun k _=>?_
 congr 1
 refine List.map_congr_left fun a ha=>?_
 have:=(hj.arr k a ha).1
 rw [rootsC_rt hj hr this.1 this.2]
def startC (N:List GNode):ClD:=(numsG 0 N.length,typesN N,arcsN N)
def genC (h:HierD) (N:List GNode) (P:List (Int×Int)):Option (List GNode×Bool):=match joinsC h (startC N) P with
 | some (some s)=>if rootsC s=true then some (canonicalF (quoC s) (findC 100 s.1 0),true) else none
 | some none=>some ([],false)
 | none=>none
theorem genC_ok {h:HierD} (hk:HOk h) {N:List GNode} (hg:GoodF N) (ht:TyOk h N) (hs:∀ x∈N,Str x.2) (h0:0 < N.length) {P:List (Int×Int)} (hP:∀ q∈P,(0≤q.1∧q.1 < (N.length:Int))∧(0≤q.2∧q.2 < (N.length:Int))) :
  (∀ U,genC h N P=some (U,true)→∃ p ty ar,JI h N P p ty ar []∧U=canonicalF (quo p ty ar) (rtF p 0))∧(∀ U,genC h N P=some (U,false)→U=[]∧∀ X v,TyOk h X→¬ XOk h N P X v):=by
 obtain ⟨k1,k2⟩:=joinsC_ok hk P [] (startC N) hP (ji_init hg ht hs)
 rw [List.nil_append] at k1 k2
 unfold genC
 split
 ·rename_i s hs2
  have hj:=k1 s hs2
  split
  ·rename_i hr
   refine ⟨fun U e=>⟨s.1,s.2.1,s.2.2,hj,?_⟩,fun U e=>(by cases e)⟩
   have e:canonicalF (quoC s) (findC 100 s.1 0)=U:=by simpa using e
   rw [← e,quoC_eq hj hr,rootsC_rt hj hr (by omega) (by omega)]
  ·exact ⟨fun U e=>(by cases e),fun U e=>(by cases e)⟩
 ·rename_i hs2
  refine ⟨fun U e=>(by cases e),fun U e=>⟨?_,k2 hs2⟩⟩
  have e:[]=U:=by simpa using e
  exact e.symm
 ·exact ⟨fun U e=>(by cases e),fun U e=>(by cases e)⟩
def unifyC (h:HierD) (a b:List GNode):Option (List GNode×Bool):=genC h (joinN a b) [(0,(a.length:Int))]
theorem unifyC_ok {h:HierD} (hu:HU h) {a b:List GNode} (va:VF h a) (vb:VF h b) (hl:a.length + b.length≤10000) {r:List GNode×Bool} (hr:unifyC h a b=some r):unifyF h a b=r:=by
 have hN:=joinN_len a b
 have hap:=va.pos
 have hbp:=vb.pos
 obtain ⟨U,z⟩:=r
 have hgN:=joinN_good va.good vb.good (by omega)
 obtain ⟨k1,k2⟩:=genC_ok hu.ok (N:=joinN a b) hgN (joinN_ty va.ty vb.ty) (joinN_str va.str vb.str) (by omega) (P:=[(0,(a.length:Int))]) (fun q hq=>by
  have e:q=(0,(a.length:Int)):=by simpa using hq
  subst e
  simp only
  omega)
 cases z with
 | true =>
  obtain ⟨p,ty,ar,hj,rfl⟩:=k1 U hr
  exact unifyF_some hu (unif_of va vb hj (quo_good hj (by omega) (joinN_ft (va.ft64 hu) (vb.ft64 hu))))
 | false =>
  obtain ⟨rfl,hno⟩:=k2 U hr
  exact unif_none va vb hno
def eqtC (h:HierD) (f:List GNode) (p q:List Int):Option (List GNode×Bool):=genC h (eqN f p q) (eqP f p q)
theorem eqtC_ok {h:HierD} (hu:HU h) (ht:HTop h) {f:List GNode} {p q:List Int} (vf:VF h f) (fp:FtP h p) (fq:FtP h q) (hp:p.length≤1000) (hq:q.length≤1000) (hl:f.length≤1000) {r:List GNode×Bool} (hr:eqtC h f p q=some r):eqtF h f p q=r:=by
 have hN:=eqN_len f p q
 have hfp:=vf.pos
 obtain ⟨U,z⟩:=r
 have j1:=joinN_len f (pathF p)
 have lpp:=pathF_len p
 have lpq:=pathF_len q
 have gN1:=joinN_good vf.good (pathF_good hp) (by omega)
 have gN:=joinN_good gN1 (pathF_good hq) (by omega)
 have h10:0 < h.1.length:=by
  have:=vf.ty _ (mem_of_take_succ f (0,[]) vf.pos)
  omega
 have tN:=joinN_ty (joinN_ty vf.ty (pathF_ty h10 p)) (pathF_ty h10 q)
 have sN:=joinN_str (joinN_str vf.str (pathF_str p)) (pathF_str q)
 have h64:∀ g:List GNode,(∀ x∈g,∀ a∈x.2,0≤a.1∧a.1 < (h.2.length:Int))→Ft64 g:=fun g hg x hx a ha=>by
  have h1:=hg x hx a ha
  have h2:=hu.ft
  omega
 have fN:=joinN_ft (joinN_ft (vf.ft64 hu) (h64 _ (pathF_ft fp))) (h64 _ (pathF_ft fq))
 obtain ⟨k1,k2⟩:=genC_ok hu.ok (N:=eqN f p q) gN tN sN (by omega) (P:=eqP f p q) (fun r hr=>by
  simp only [List.mem_cons,List.not_mem_nil,or_false] at hr
  rcases hr with rfl | rfl | rfl<;>simp only<;>omega)
 cases z with
 | true =>
  obtain ⟨p',ty,ar,hj,rfl⟩:=k1 U hr
  exact eqtF_some hu (eqt_of ht vf fp fq hp hq (by omega) hj (quo_good hj (by omega) fN))
 | false =>
  obtain ⟨rfl,hno⟩:=k2 U hr
  refine eqtF_none fun X hX m1 h1 n hn1 hn2=>?_
  obtain ⟨v,hv,-⟩:=eqt_xok ht vf hp hq (by omega) hX h1 hn1 hn2
  exact hno X v hX.ty hv
/-! What is valid can be computed -/
def roB (f:List GNode):Bool:=(List.range f.length).all fun (i:Nat)=>i == 0 || (List.range i).any fun j=>(f.getD j (0,[])).2.any fun a=>a.2 == (i:Int)
def strB:List (Int×Int)→Bool
 | a :: b :: l=>decide (a.1 < b.1) && strB (b :: l)
 | _=>true
theorem strB_ok:∀ {l:List (Int×Int)},strB l=true→Str l
 | [],_=>.nil
 | [a],_=>List.pairwise_singleton _ _
 | a :: b :: l,h=>by
  simp only [strB,Bool.and_eq_true,decide_eq_true_eq] at h
  have ih:=strB_ok h.2
  refine List.pairwise_cons.2 ⟨fun c hc=>?_,ih⟩
  rcases List.mem_cons.1 hc with rfl | hc
  ·exact h.1
  ·have:=(List.pairwise_cons.1 ih).1 c hc
   omega
def vfB (h:HierD) (f:List GNode):Bool :=
 decide (0 < f.length) && decide (f.length≤100) && roB f && (canonicalF f 0 == f) && f.all fun x=>decide (0≤x.1) && decide (x.1 < (h.1.length:Int)) && decide (x.2.length≤100) && strB x.2 && x.2.all fun a=>decide (0≤a.1) && decide (a.1 < (h.2.length:Int)) && decide (0≤a.2) && decide (a.2 < (f.length:Int))
theorem vfB_ok {h:HierD} {f:List GNode} (hb:vfB h f=true):VF h f:=by
 unfold vfB at hb
 simp only [Bool.and_eq_true,decide_eq_true_eq,List.all_eq_true,beq_iff_eq] at hb
 obtain ⟨⟨⟨⟨h1,h2⟩,h3⟩,h4⟩,h5⟩:=hb
 refine ⟨⟨by omega,fun x hx=>⟨by have:=(h5 x hx).1.1.2;omega,fun a ha=>?_⟩⟩,h1,fun x hx=>?_,fun x hx=>?_,fun x hx a ha=>?_,h4,fun i i0 i1=>?_⟩
 ·have:=(h5 x hx).2 a ha
  exact ⟨this.1.2,this.2⟩
 ·exact (h5 x hx).1.1.1
 ·exact strB_ok (h5 x hx).1.2
 ·exact ((h5 x hx).2 a ha).1.1
 ·unfold roB at h3
  rw [List.all_eq_true] at h3
  have:=h3 i.toNat (List.mem_range.2 (by omega))
  rw [Bool.or_eq_true,beq_iff_eq] at this
  rcases this with e | e
  ·omega
  ·obtain ⟨j,hj,e⟩:=List.any_eq_true.1 e
   obtain ⟨a,ha,e⟩:=List.any_eq_true.1 e
   have hj:=List.mem_range.1 hj
   refine ⟨(j:Int),by omega,by omega,a,by rw [arcsAt,Int.toNat_natCast];exact ha,?_⟩
   have e:a.2=(i.toNat:Int):=by simpa using e
   omega
end
/- Functions of grammarlablaw11: exampleHolds. -/
section
attribute [local go_sem] small11S node11S of11S unifyS atomS eqtS allS equalS
abbrev sH:HierD:=(compileF smallD).1
theorem sH_ft:sH.2.length≤64:=by decide +kernel
theorem sH_hu:HU sH:=⟨compile_hok smallD,compile_inj smallD,sH_ft⟩
theorem sH_top:HTop sH:=compile_top smallD
def exA1:List GNode:=[(0,[(0,1),(1,2)]),(1,[]),(0,[])]
def exA2:List GNode:=[(0,[(0,1),(1,2)]),(1,[]),(2,[])]
def exB:List GNode:=[(0,[(0,1),(1,1)]),(0,[])]
def exA3:List GNode:=[(0,[(0,1)]),(0,[(0,2)]),(1,[])]
def exB3:List GNode:=[(0,[(0,0)])]
def exT:List GNode:=[(0,[])]
theorem exv_A1:VF sH exA1:=vfB_ok (by decide +kernel)
theorem exv_A2:VF sH exA2:=vfB_ok (by decide +kernel)
theorem exv_B:VF sH exB:=vfB_ok (by decide +kernel)
theorem exv_A3:VF sH exA3:=vfB_ok (by decide +kernel)
theorem exv_B3:VF sH exB3:=vfB_ok (by decide +kernel)
theorem exv_T:VF sH exT:=vfB_ok (by decide +kernel)
theorem exr1:unifyF sH exA1 exB=([(0,[(0,1),(1,1)]),(1,[])],true):=unifyC_ok sH_hu exv_A1 exv_B (by decide) (by decide +kernel)
theorem exr2:unifyF sH exA2 exB=([],false):=unifyC_ok sH_hu exv_A2 exv_B (by decide) (by decide +kernel)
theorem exr3:unifyF sH exA3 exB3=([(1,[(0,0)])],true):=unifyC_ok sH_hu exv_A3 exv_B3 (by decide) (by decide +kernel)
theorem ex_ftp {p:List Int} (h:p.all (fun x=>decide (0≤x) && decide (x < (sH.2.length:Int)))=true):FtP sH p:=fun e he=>by
 have:=List.all_eq_true.1 h e he
 rw [Bool.and_eq_true,decide_eq_true_eq,decide_eq_true_eq] at this
 exact this
theorem exp0:FtP sH [0,0]:=ex_ftp (by decide +kernel)
theorem exp1:FtP sH [0]:=ex_ftp (by decide +kernel)
theorem exp2:FtP sH [1]:=ex_ftp (by decide +kernel)
theorem exp3:FtP sH []:=ex_ftp (by decide +kernel)
theorem exq1:eqtF sH exT [0,0] [0]=([(0,[(0,1)]),(0,[(0,1)])],true):=eqtC_ok sH_hu sH_top exv_T exp0 exp1 (by decide) (by decide) (by decide) (by decide +kernel)
theorem exq2:eqtF sH exT [0] [1]=([(0,[(0,1),(1,1)]),(0,[])],true):=eqtC_ok sH_hu sH_top exv_T exp1 exp2 (by decide) (by decide) (by decide) (by decide +kernel)
theorem exq3:eqtF sH exT [0] []=([(0,[(0,0)])],true):=eqtC_ok sH_hu sH_top exv_T exp1 exp3 (by decide) (by decide) (by decide) (by decide +kernel)
def ex11S:Spec:={ ins:=[],pre:=fun _=>True,out:=fun _=>[.p .bool true] }
theorem ex11_ok:FnOk Tryz.prog 17 ex11S:=by
 refine fn_ok Tryz.func17 (by kernel_rfl) rfl Tryz.ntmps17 (by decide) (by kernel_rfl) (tyTab_ok [(56,small11S),(58,node11S),(57,of11S),(18,unifyS),(59,atomS),(24,eqtS),(21,allS),(20,equalS)] [19,22,26,30,38,42,50,52,55,57,59,68,69,76,77,84,103,106,112,114,132,134,136,147,149]) (fns_cons small11_ok (fns_cons node11_ok (fns_cons of11_ok (fns_cons unify_ok (fns_cons atom_ok (fns_cons eqt_ok (fns_cons all_ok (fns_cons equal_ok fns_nil)))))))) ?_
 rintro w0 O0 u hc - -
 simp only [ex11S,entEnv]
 repeat' (first | exact trivial | refine eS rfl ?_ | refine ev_out_inv ?_ | refine rP [0,1,2,3,4,6,7,8,9,10,11,12,13,14,15,16,17] hc ?_ ?_ | fail)
 have hu:HU (compileF smallD).1:=sH_hu
 have ht:HTop (compileF smallD).1:=sH_top
 have q1:unifyF (compileF smallD).1 [(0,[(0,1),(1,2)]),(1,[]),(0,[])] [(0,[(0,1),(1,1)]),(0,[])]=([(0,[(0,1),(1,1)]),(1,[])],true):=exr1
 have q2:unifyF (compileF smallD).1 [(0,[(0,1),(1,2)]),(1,[]),(2,[])] [(0,[(0,1),(1,1)]),(0,[])]=([],false):=exr2
 have q3:unifyF (compileF smallD).1 [(0,[(0,1)]),(0,[(0,2)]),(1,[])] [(0,[(0,0)])]=([(1,[(0,0)])],true):=exr3
 have r1:eqtF (compileF smallD).1 [(0,[])] [0,0] [0]=([(0,[(0,1)]),(0,[(0,1)])],true):=exq1
 have r2:eqtF (compileF smallD).1 [(0,[])] [0] [1]=([(0,[(0,1),(1,1)]),(0,[])],true):=exq2
 have r3:eqtF (compileF smallD).1 [(0,[])] [0] []=([(0,[(0,0)])],true):=exq3
 have v1:VF (compileF smallD).1 [(0,[(0,1),(1,2)]),(1,[]),(0,[])]:=exv_A1
 have v2:VF (compileF smallD).1 [(0,[(0,1),(1,2)]),(1,[]),(2,[])]:=exv_A2
 have v3:VF (compileF smallD).1 [(0,[(0,1)]),(0,[(0,2)]),(1,[])]:=exv_A3
 have v4:VF (compileF smallD).1 [(0,[(0,1),(1,1)]),(0,[])]:=exv_B
 have v5:VF (compileF smallD).1 [(0,[(0,0)])]:=exv_B3
 have v6:VF (compileF smallD).1 [(0,[])]:=exv_T
 have f1:FtP (compileF smallD).1 [0,0]:=exp0
 have f2:FtP (compileF smallD).1 [0]:=exp1
 have f3:FtP (compileF smallD).1 [1]:=exp2
 have f4:FtP (compileF smallD).1 []:=exp3
 generalize (compileF smallD).1=h at *
 have pe0:pairsF [] (0 / 2)=[]:=rfl
 have pe1:pairsF [0,1,1,2] (4 / 2)=[(0,1),(1,2)]:=rfl
 have pe2:pairsF [0,1,1,1] (4 / 2)=[(0,1),(1,1)]:=rfl
 have pe3:pairsF [0,1] (2 / 2)=[(0,1)]:=rfl
 have pe4:pairsF [0,2] (2 / 2)=[(0,2)]:=rfl
 have pe5:pairsF [0,0] (2 / 2)=[(0,0)]:=rfl
 have he:(h.1,h.2)=h:=rfl
 have ra:allF h []=([((0:Int),[])],true):=rfl
 simp only [he,pe0,pe1,pe2,pe3,pe4,pe5]
 refine ev_mix drawsAny hc 14 [([0,1,2,3,4,5,6,7,8,9,10,12],13)] [11] (by kernel_rfl) (mxA ?_ ?_)
 ·exact ⟨hu,v1,v4⟩
 ·refine mxL hc [] ?_ ?_
  ·trivial
  ·refine mxE [0,1,2,3,4,6,7,8,9,10,11,12,13,14,15,16,17] hc ?_ ?_ ?_
   ·trivial
   ·trivial
   ·simp only [he,pe0,pe1,pe2,pe3,pe4,pe5,q1,q2,q3]
    repeat' (first | exact trivial | refine eS rfl ?_ | refine ev_out_inv ?_ | refine rP [0,1,2,3,4,6,7,8,9,10,11,12,13,14,15,16,17] hc ?_ ?_ | fail)
    refine ev_mix drawsAny hc 14 [([0,1,2,3,4,5,6,7,8,9,10,12],13)] [11] (by kernel_rfl) (mxA ?_ ?_)
    ·exact ⟨hu,v2,v4⟩
    ·refine mxL hc [] ?_ ?_
     ·trivial
     ·refine mxE [0,1,2,3,4,6,7,8,9,10,11,12,13,14,15,16,17] hc ?_ ?_ ?_
      ·trivial
      ·trivial
      ·simp only [he,pe0,pe1,pe2,pe3,pe4,pe5,q1,q2,q3]
       repeat' (first | exact trivial | refine eS rfl ?_ | refine ev_out_inv ?_ | refine rP [0,1,2,3,4,6,7,8,9,10,11,12,13,14,15,16,17] hc ?_ ?_ | fail)
       refine ev_mix drawsAny hc 18 [([0,1,2,3,4,5,6,7,8,9,10,11,12,13,14,16],17)] [15] (by kernel_rfl) (mxA ?_ ?_)
       ·exact ⟨hu,v3,v5⟩
       ·refine mxL hc [] ?_ ?_
        ·trivial
        ·refine mxE [0,1,2,3,4,6,7,8,9,10,11,12,13,14,15,16,17] hc ?_ ?_ ?_
         ·trivial
         ·trivial
         ·simp only [he,pe0,pe1,pe2,pe3,pe4,pe5,q1,q2,q3]
          repeat' (first | exact trivial | refine eS rfl ?_ | refine ev_out_inv ?_ | refine rP [0,1,2,3,4,6,7,8,9,10,11,12,13,14,15,16,17] hc ?_ ?_ | fail)
          ·exact ⟨hu,ht,v6,f1,f2⟩
          ·exact ⟨hu,ht,v6,f2,f3⟩
          ·exact ⟨hu,ht,v6,f2,f4⟩
          ·exact ⟨hu,fun x hx=>by cases hx⟩
          ·simp only [he,r1,r2,r3,ra]
           repeat' (first | exact trivial | refine eS rfl ?_ | refine ev_out_inv ?_ | refine rX [0,1,2,3,4,6,7,8,9,10,11,12,13,14,15,16,17] hc ?_ ?_ | (refine rC (fun hcond=>?_) (fun hcond=>?_)<;>try (cases hcond;done)))
           ·repeat' (first | (refine (?_:SmallF _);unfold SmallF;decide +kernel) | decide +kernel | intro _ | apply And.intro)
           ·refine Ev.ent (σ':=⟨[(0,.p .bool true)],[]⟩) ?_ (ent_match [] rfl rfl ?_ ?_)
            ·exact ev_fin hc [.tmp 0] rfl (.inl rfl) (by simp) (by first | exact eR | refine eRM ?_)
            ·first | exact eN | refine eM ?_
            ·first | exact eN | refine eM ?_
             decide +kernel
end
/- The law UnifyMakes. -/
section
attribute [local go_sem] hier11S fitsS ex11S unifyS uni11S equalS
theorem hier11_nrm (d:List DeclD):NrmH (hier11F d):=by
 have key:∀ d:List DeclD,NrmH (compileF d).1:=fun d t ht=>(compile_nd d).nrm _ (List.mem_map.2 ⟨t,ht,rfl⟩)
 unfold hier11F
 split
 ·exact key d
 ·exact key preludeF
end
/- The law UnifyLists. -/
section
attribute [local go_sem] hier11S fitsS ex11S allS all11S equalS
theorem all_small {h:HierD} (hu:HU h) {l:List (List GNode)} (hl:∀ x∈l,VF h x∧x.length≤100) (hn:l.length≤50):SmallF (allF h l).1:=by
  by_cases h0:l=[]
  · subst h0
    show SmallF [((0:Int),[])]
    exact ⟨by simp, fun x hx => by have : x = (0, []) := by simpa using hx
                                   subst this;simp⟩
  · rcases all_law hu h0 hl hn with ⟨_,a⟩ | ⟨e,_⟩
    · exact a.vf.small
    · rw [e];exact ⟨by simp,by simp⟩
def law11lS:Spec:={ ins:=[T22,T37],pre:=fun _=>True,out:=fun _=>[.p .bool true] }
attribute [local go_sem] law11lS
theorem law2_ok:FnOk Tryz.prog 4 law11lS:=by
 refine fn_ok Tryz.func4 (by kernel_rfl) rfl Tryz.ntmps4 (by decide) (by kernel_rfl) (tyTab_ok [(15,hier11S),(16,fitsS),(17,ex11S),(21,allS),(22,all11S),(20,equalS)]) (fns_cons hier11_ok (fns_cons fits_ok (fns_cons ex11_ok (fns_cons all_ok (fns_cons all11_ok (fns_cons equal_ok fns_nil)))))) ?_
 rintro w0 O0 ⟨d,l,u⟩ hc - -
 simp only [law11lS,entEnv]
 have hh:=hier11_h d
 have hn:=hier11_nrm d
 have hv:=fits_VF (d:=d) (l:=l)
 repeat' (first | exact trivial | refine eS rfl ?_ | refine ev_out_inv ?_ | refine rX [0,1,4,5,6,7,8,9,10,11,12,13,24,42] hc ?_ ?_ | (refine rC (fun hcond=>?_) (fun hcond=>?_)<;>try (cases hcond;done)))
 all_goals try simp only [he2 (hier11F d)] at *
 ·exact ev_fin hc [.tmp 4] rfl (.inl rfl) (by simp) (by first | exact eR | refine eRM ?_)
 ·obtain ⟨h4,hf⟩:=hcond
  exact ⟨hh.hu,by exact eV,fun x hx=>⟨(hv hf x hx).1,Nat.le_trans (hv hf x hx).2 (by omega)⟩⟩
 ·obtain ⟨h4,hf⟩:=hcond
  exact ⟨⟨hh.hu,hn,hh.top⟩,by exact eV,hv hf⟩
 ·exact eV
 ·obtain ⟨h4,hf⟩:=hcond
  have hl4:List.length l≤4:=by exact eV
  have hv100:∀ x∈(l:List (List GNode)),VF (hier11F d) x∧x.length≤100:=fun x hx=>⟨(hv hf x hx).1,Nat.le_trans (hv hf x hx).2 (by omega)⟩
  have hrev:=all_rev hh.hu hv100 (by omega)
  have hsm:=all_small hh.hu hv100 (by omega)
  refine ev_loop (ι:={j:Nat // j≤List.length l}) (fun j=>⟨[(4,.p .bool false),(5,.bp 5 [] 0),(6,.bp 6 [] 0),(7,.p .bool (allF (hier11F d) l).2),(8,.bp 8 [] 0),(9,.p .bool (allF (hier11F d) l).2),(10,.sr 51 T25 0 (List.reverse (List.drop j.1 l)).length),(11,.p (.int .i64) ((j.1:Int) - 1)),(1,.p T37 l)],[(8,.box 25 true [.p T23 (allF (hier11F d) l).1]),(6,.box 25 true [.p T23 (allF (hier11F d) l).1]),(5,.box 29 true [.p T26 (hier11F d).1,.p T27 (hier11F d).2]),(51,.arr 25 T25 (List.reverse (List.drop j.1 l)))]⟩) (fun j=>j.1) ⟨List.length l,Nat.le_refl _⟩ (ent_match [(8,.nm 8),(6,.nm 6),(5,.nm 5),(51,.nil)] rfl rfl ?_ ?_) (fun j=>?_)
  ·first | exact eN | refine eM ?_
   rw [List.drop_length];rfl
  ·first | exact eN | refine eM ?_
   rw [List.drop_length];rfl
  ·obtain ⟨j,hj⟩:=j
   have hdr:0 < j→List.reverse (List.drop (j - 1) l)=List.reverse (List.drop j l)++[List.getD l (j - 1) []]:=fun h0=>by
    have hlt:j - 1 < List.length l:=by omega
    rw [List.drop_eq_getElem_cons hlt,List.reverse_cons,List.getD_eq_getElem?_getD,List.getElem?_eq_getElem hlt,show j - 1 + 1=j by omega];rfl
   simp only
   repeat' (first | exact trivial | refine eS rfl ?_ | refine ev_out_inv ?_ | refine rX [0,1,4,5,6,7,8,9,10,11,12,13,24,42] hc ?_ ?_ | (refine rC (fun hcond=>?_) (fun hcond=>?_)<;>try (cases hcond;done)))
   all_goals try simp only [he2 (hier11F d)] at *
   ·refine ⟨⟨hcond,by exact eV⟩,?_⟩
    have h5:(List.reverse (List.drop j l)).length≤4:=by rw [List.length_reverse,List.length_drop];omega
    simp only [maxN]
    omega
   ·exact eV
   ·have hj0:0 < j:=by exact eV
    have e1:Int.toNat ((j:Int) - 1)=j - 1:=by omega
    have e2:((j - 1:Nat):Int)=(j:Int) - 1:=by omega
    refine ⟨⟨j - 1,by omega⟩,by simp only;omega,ent_match [(8,.nm 8),(6,.nm 6),(5,.nm 5),(51,.nm 51)] rfl rfl ?_ ?_⟩
    ·simp only
     rw [hdr hj0,e1]
     first | exact eN | refine eM ?_
    ·simp only
     rw [hdr hj0,e2]
     first | exact eN | refine eM ?_
   ·have hj0:j=0:=by exact eV
    subst hj0
    refine frzE [51] ?_
    have hlr:(List.reverse (List.drop 0 l)).take (List.reverse (List.drop 0 l)).length=List.reverse l:=by rw [List.take_length,List.drop_zero]
    have hrv:∀ x∈List.reverse (l:List (List GNode)),VF (hier11F d) x∧x.length≤100:=fun x hx=>hv100 x (List.mem_reverse.1 hx)
    repeat' (first | exact trivial | refine eS rfl ?_ | refine ev_out_inv ?_ | refine rX [0,1,4,5,6,7,8,9,10,11,12,13,24,42] hc ?_ ?_ | (refine rC (fun hcond=>?_) (fun hcond=>?_)<;>try (cases hcond;done)))
    all_goals try simp only [he2 (hier11F d)] at *
    ·exact ⟨hh.hu,by rw [List.length_reverse];omega,hrv⟩
    ·rw [hrev]
     exact ⟨fun _=>hsm,fun _=>⟨hsm,hsm⟩⟩
    ·rw [hrev,compareF_self]
     exact ev_fin hc [.tmp 4] rfl (.inl rfl) (by simp) (by first | exact eR | refine eRM ?_)
end
end Go.Proofs.YtebfihindnhccaaGreat.Fw
