/- Contracts of the program's and the reference's functions, and the plain laws of what they compute: R15c R15d R07b R07c R07d R07e Sorted R07f R07g R07h R15e R15k R07a P8 G1 G3 G2 G4 G5 G6 P1 P9 R08a P3 P4 P5. -/
/- Functions of grammarlabref15: LightPaths; grammarlabref07.Atom. -/
import Derived.Test.YtebfihindnhccaaZJ
import Derived.Test.YtebfihindnhccaaZI
set_option linter.unusedVariables false
set_option linter.unusedSimpArgs false
namespace Go.Proofs.Ytebfihindnhccaa.Fw
open Go
attribute [local irreducible] Ev
attribute [local go_sem] cx_tb entEnv List.toList_toArray evSeq evG evK vcK guardOf guardT guardB_true guardB_false step1 step0 stepQ takesIn namesParts namesOf namesStore frzAll frz frz1 fixN frzEnv frzObjs drpEnv drpObjs AV.frz AV.frzs AV.drp AV.drps AV.names AV.namess aq qmap qPick qAlloc qBox qBuild qBuildSlice qBuildSlice2 qLoad qLoadB qLoadB2 qLoadE qLoadE2 qLoadE3 qFieldI qOff qPart qField qIndexA qIndex qIndexS qNil qBin qUn qConv qMake qMake2 qSlice qExtract qLen qAppend qAppend2 qAppend3 qMin qMax qCall qCall2 qCall3 qBuiltin qCallee aloud lStoreD lStore lStoreB lStoreB2 lStoreE lStoreE3 lStoreE4 namesStore isNest asA ninT qLoadN qBuildS qNest1 qNest2 qNest3 lNin2 lNin3 lNin4 lBackS lBack2 lBack3 lJoin lJoin2 lJoin3 lNew lNew2 lNew3 AV.trn AV.trns trnEnv trnObjs Obj.trn appN2 stoN lCallee lBuiltin lAppend lAppend2 lAppend3 lAppend4 opv lk constAV optAV sliceQ bin binI binS binB boolT zf1 zfs pfs AV.cells nthOff loadB offB storeB notAg fitsT fitsO Ty.cell1 fieldOk partsT partsAg argsT asT asT1 asTs pairO srT castTo_self getF setF getP setP offP offF fldT rvAV rvObj rvAVs rvObjs resAV RV.flat Ty.flat Ty.size St.add upd del fresh Value.oneCell' refZ Ty.dflt sub_all sub_one sub_take sub_end List.take_succ_cons List.take_zero List.length_cons cast0 castS sub_app take_app sub_app1 take_app1 take_one1 natC zero_le_natC i64_min i64_max u64_min u64_max u8_min u8_max inK_i64 inK_u64 inK_u8 Option.map_some Option.map_none Option.bind_some Option.getD_some Option.getD_none Option.isNone_none Option.isNone_some Bool.and_true Bool.true_and Bool.and_false Bool.false_and Bool.not_true Bool.not_false if_true if_false List.length_cons List.length_nil and_true true_and and_self List.all_cons List.all_nil List.append_nil List.nil_append List.cons_append List.getElem?_cons_zero List.getElem?_cons_succ List.getElem?_nil List.map_cons List.map_nil List.set_cons_zero List.set_cons_succ List.isEmpty_nil List.isEmpty_cons decide_true decide_false beq_self_eq_true bne_self_eq_false Nat.zero_add Nat.add_zero Nat.sub_zero Int.toNat_natCast Int.toNat_zero Int.toNat_one List.take_length List.length_append List.length_singleton true_or or_true or_self false_or or_false Ty.agg.injEq Ty.slice.injEq Ty.prod.injEq Ty.int.injEq Option.some.injEq beq_iff_eq evM evMG evMQ opM isPick viewE viewS viewG opTs opTmp consE guardM guardM1 guardM2 sideM sideM2 pickM pickM2 sufB chEq_nil chEq_nc chEq_cn chEq_cons memB dstOf Op.operands Call.operands List.filterMap_cons List.filterMap_nil List.append_eq Bool.cond_false_right Bool.cond_true_left cond_true cond_false implies_true decide_eq_true_eq beq_true beq_false Bool.or_true Bool.or_false Bool.true_or Bool.false_or Option.isSome_some fieldV namesAg namesAgs capNs qClo qClo2 qMakeMap qMakeMap2 qMakeMap3 qLook qLook2 qLook3 qLook4 keyT keyP eqT inB lMapUp lMapUp2 lMapUp3 namesMap argEnv cm_tb List.drop_zero pruneR prune rem1 afterM addDst fgtEnv AV.fgt AV.fgts Obj.fgt restObjs handed memB calleeOf opvs matchArgs matchArg List.any_cons List.any_nil evF evFO evFQ evFK addQ frOk qs List.flatMap_cons List.flatMap_nil List.cons_append tn appN fgtEN List.take_succ_cons List.drop_succ_cons isYl parEnv rangeSt cY_tb marked_tb renOk renIn matchObjs matchEnv matchE matchAV matchAVs matchF matchO pureT
attribute [local go_sem] ty1 ty2 ty3 ty4 ty5 ty9 ty12 ty21 ty22 ty23 ty24 ty25 ty26 ty27 ty28 ty29 ty30 ty31 ty32 ty33 ty35 ty36 ty37 ty38 ty39 ty40 ty41 ty42 ty43 ty44 ty45 ty46 ty47 ty48 ty49 ty50 ty51 ty52 ty54 ty55 ty56 ty57 ty58 ty59 ty60 ty61 ty62 ty63 ty64 ty65 ty66 ty67 ty68 ty69 ty70 ty72 ty73 ty74 ty76 ty77 ty78 ty80 ty81 ty82 ty83 ty84 ty85 ty86 ty87 ty88 ty89 ty90 ty92 ty93 ty95 ty96 ty97 ty98 ty99 ty100 ty101 ty102 ty103 ty105 ty106 ty107 ty108 ty109 ty110 ty111 ty112 ty113 ty114 ty115 ty116 ty117 ty118 ty119 ty120 ty121 ty122 ty123 ty124 ty125 ty127 ty128 ty129 ty130 ty131 ty132 ty133 ty134 ty135 ty136 ty138 ty139 ty140 ty141 ty142 ty143 ty144 ty145 ty146 ty147 ty148 ty149 ty150 ty151 ty152 ty153 ty154 ty155 ty156 ty157 ty158 ty159 ty161 ty162 ty163 ty164 ty165 ty166 ty167 ty168 ty169 ty170 ty171 ty172 ty173 ty174 ty175 ty176 ty177 ty178 ty179 ty180 ty181 ty182 ty183 ty184 ty185 ty186 ty187 ty188 ty189 ty190 ty191 ty192 ty193 ty194 ty196 ty197 ty198 ty199 ty200 ty201 ty202 ty203 ty204 ty205 ty206 ty207 ty208 ty209 ty211 ty212 ty218 ty221 ty222
set_option maxRecDepth 100000
set_option maxHeartbeats 4000000
section
def lightPathsF (l:List (List Int)):Bool:=decide (l.length≤20) && l.all fun p=>decide (p.length≤20)
def lightPathsS:Spec:={ ins:=[T47],pre:=fun _=>True,out:=fun (l,_)=>[.p .bool (lightPathsF l)] }
theorem lightPaths_ok:FnOk Try.prog 18 lightPathsS:=by
 refine fn_ok Try.func18 (by kernel_rfl) rfl Try.ntmps18 (by decide) (by kernel_rfl) (tyTab_ok []) fns_nil ?_
 rintro w0 O0 ⟨l,u⟩ hc ⟨⟨hl,-⟩,-⟩ -
 simp only [maxN] at hl
 simp only [lightPathsS,entEnv]
 repeat' (first | exact trivial | refine eS rfl ?_ | refine ev_out_inv ?_ | refine rX [0,2,3,6,10,18] hc ?_ ?_ | (refine rC (fun hcond=>?_) (fun hcond=>?_)<;>try (cases hcond;done)))
 ·have h1:lightPathsF l=false:=by
   have h:¬ l.length≤20:=by exact eV
   unfold lightPathsF
   simp [h]
  exact ev_fin hc [.tmp 2] rfl (.inl rfl) (by simp) (by rw [h1];first | exact eR | refine eRM ?_)
 ·have h20:l.length≤20:=by exact eV
  refine ev_loop (ι:={k:Nat // k≤l.length∧(l.take k).all (fun p=>decide (p.length≤20))=true}) (fun k=>⟨[(0,.p T47 l),(3,.p (.int .i64) (k.1:Int))],[]⟩) (fun k=>l.length - k.1) ⟨0,by simp⟩ (ent_match [] rfl rfl ?_ ?_) (fun k=>?_)
  ·first | exact eN | refine eM ?_
  ·first | exact eN | refine eM ?_
  ·obtain ⟨k,hk,hall⟩:=k
   repeat' (first | exact trivial | refine eS rfl ?_ | refine ev_out_inv ?_ | refine rX [0,2,3,6,10,18] hc ?_ ?_ | (refine rC (fun hcond=>?_) (fun hcond=>?_)<;>try (cases hcond;done)))
   ·exact eV
   ·have hkl:k < l.length:=by exact eV
    have h1:lightPathsF l=false:=by
     have hm:=mem_of_take_succ l [] hkl
     have h:¬ (l.getD k []).length≤20:=by
      have:(20:Int) < ((l.getD k []).length:Int):=hcond
      omega
     unfold lightPathsF
     rw [Bool.and_eq_false_iff]
     right
     rw [List.all_eq_false]
     exact ⟨_,hm,by simpa using h⟩
    exact ev_fin hc [.tmp 2] rfl (.inl rfl) (by simp) (by rw [h1];first | exact eR | refine eRM ?_)
   ·exact eV
   ·have hkl:k < l.length:=by exact eV
    refine ⟨⟨k + 1,by exact eV,?_⟩,by simp only;exact eV,ent_match [] rfl rfl ?_ ?_⟩
    ·have h:(l.getD k []).length≤20:=by
      have:((l.getD k []).length:Int)≤20:=hcond
      omega
     rw [take_snoc l [] hkl,List.all_append,hall]
     simpa using h
    ·first | exact eN | refine eM ?_
    ·first | exact eN | refine eM ?_
   ·have hk:l.take k=l:=List.take_of_length_le (by exact eV)
    rw [hk] at hall
    have h1:lightPathsF l=true:=by unfold lightPathsF;rw [hall];simp [h20]
    exact ev_fin hc [.tmp 2] rfl (.inl rfl) (by simp) (by rw [h1];first | exact eR | refine eRM ?_)
def atomS:Spec:={ ins:=[T3],pre:=fun _=>True,out:=fun (t,_)=>[.p T25 [(t,[])]] }
theorem atom_ok:FnOk Try.prog 12 atomS:=by
 refine fn_ok Try.func12 (by kernel_rfl) rfl Try.ntmps12 (by decide) (by kernel_rfl) (tyTab_ok []) fns_nil ?_
 rintro w0 O0 ⟨t,u⟩ hc - -
 simp only [atomS,entEnv]
 repeat' (first | exact trivial | refine eS rfl ?_ | refine ev_out_inv ?_ | refine rX [0,2] hc ?_ ?_ | (refine rC (fun hcond=>?_) (fun hcond=>?_)<;>try (cases hcond;done)))
 exact ev_fin hc [.cell 2 25] rfl (.inl rfl) (by simp) (by first | exact eR | refine eRM ?_)
end
/- Functions of grammarlabref15: arc. -/
section
def arcG (l:List (Int×Int)) (feat:Int):Nat→Int
 | 0=>-1
 | m + 1=>if (l.getD (l.length - (m + 1)) (0,0)).1=feat then ((l.length - (m + 1):Nat):Int) else arcG l feat m
def arcF (l:List (Int×Int)) (feat:Int):Int:=arcG l feat l.length
def arcS:Spec:={ ins:=[T60,T3],pre:=fun _=>True,out:=fun (l,n,_)=>[.p T3 (arcF l n)],lend:=true }
theorem arc_ok:FnOk Try.prog 43 arcS:=by
  refine fn_ok Try.func43 (by kernel_rfl) rfl Try.ntmps43 (by decide) (by kernel_rfl) (tyTab_ok []) fns_nil ?_
  rintro w0 O0 ⟨l,n,u⟩ hc ⟨⟨hl,-⟩,-⟩ -
  simp only [maxN] at hl
  simp only [arcS,entEnv]
  repeat' (first | exact trivial | refine eS rfl ?_ | refine ev_out_inv ?_ | refine rX [0,1,4,5,9,18] hc ?_ ?_ | (refine rC (fun hcond=>?_) (fun hcond=>?_)<;>try (cases hcond;done)))
  refine ev_loop (ι:={k:Nat // k≤l.length∧arcG l n (l.length - k)=arcF l n}) (fun k=>⟨[(0,.p T60 l),(1,.p T3 n),(5,.p (.int .i64) (k.1:Int))],[]⟩) (fun k=>l.length - k.1) ⟨0,by simp [arcF]⟩ (ent_match [] rfl rfl ?_ ?_) (fun k=>?_)
  · first | exact eN | refine eM ?_
  · first | exact eN | refine eM ?_
  · obtain ⟨k,hk,hg⟩:=k
    have hstep:k < l.length→arcG l n (l.length - k)=if (l.getD k (0,0)).1=n then (k:Int) else arcG l n (l.length - (k + 1)):=by
      intro h
      obtain ⟨m,hm⟩:∃ m,l.length - k=m + 1:=⟨l.length - k - 1,by omega⟩
      have e1:l.length - (m + 1)=k:=by omega
      have e2:l.length - (k + 1)=m:=by omega
      rw [hm,e2]
      simp only [arcG]
      rw [e1]
    repeat' (first | exact trivial | refine eS rfl ?_ | refine ev_out_inv ?_ | refine rX [0,1,4,5,9,18] hc ?_ ?_ | (refine rC (fun hcond=>?_) (fun hcond=>?_)<;>try (cases hcond;done)))
    · exact eV
    · have hkl:k < l.length:=by exact eV
      have h1:arcF l n=(k:Int):=by rw [← hg,hstep hkl,if_pos hcond]
      exact ev_fin hc [.tmp 4] rfl (.inl rfl) (by simp) (by rw [h1];first | exact eR | refine eRM ?_)
    · exact eV
    · have hkl:k < l.length:=by exact eV
      refine ⟨⟨k + 1,by exact eV,?_⟩,by simp only;exact eV,ent_match [] rfl rfl ?_ ?_⟩
      · rw [← hg,hstep hkl,if_neg (by simpa using hcond)]
      · first | exact eN | refine eM ?_
      · first | exact eN | refine eM ?_
    · have hkl : l.length - k = 0 := by have : (l.length : Int) ≤ k := by exact eV
                                        omega
      have h1:arcF l n=-1:=by rw [← hg,hkl];rfl
      exact ev_fin hc [.tmp 4] rfl (.inl rfl) (by simp) (by rw [h1];first | exact eR | refine eRM ?_)
end
/- Functions of grammarlabref07: arcs. -/
section
def arcsG (n:Int) (seen:List (Int×Int)):List (Int×Int)→Int
 | []=>0
 | x :: r=>if x.1 < 0∨x.2 < 0∨n≤x.2 then 2 else if (seen.any fun y=>y.1 == x.1)=true then 4 else arcsG n (seen++[x]) r
def arcsF (l:List (Int×Int)) (n:Int):Int:=arcsG n [] l
def arcsS:Spec:={ ins:=[T60,T3],pre:=fun _=>True,out:=fun (l,n,_)=>[.p T52 (arcsF l n)] }
theorem arcsG_step (n:Int) (l:List (Int×Int)) {k:Nat} (h:k < l.length):arcsG n (l.take k) (l.drop k)=if (l.getD k (0,0)).1 < 0∨(l.getD k (0,0)).2 < 0∨n≤(l.getD k (0,0)).2 then 2 else if ((l.take k).any fun y=>y.1 == (l.getD k (0,0)).1)=true then 4 else arcsG n (l.take (k + 1)) (l.drop (k + 1)):=by
 rw [take_snoc l (0,0) h,List.drop_eq_getElem_cons h,List.getD_eq_getElem?_getD,List.getElem?_eq_getElem h]
 rfl
theorem any_take_succ (l:List (Int×Int)) (f:Int) {k:Nat} (h:k < l.length):((l.take (k + 1)).any fun y=>y.1 == f)=((l.take k).any (fun y=>y.1 == f) || ((l.getD k (0,0)).1 == f)):=by
 rw [take_snoc l (0,0) h,List.any_append];simp
theorem arcs_ok:FnOk Try.prog 82 arcsS:=by
 refine fn_ok Try.func82 (by kernel_rfl) rfl Try.ntmps82 (by decide) (by kernel_rfl) (tyTab_ok []) (fun f sp h=>by simp [lk] at h) ?_
 rintro w0 O0 ⟨l,n,u⟩ hc ⟨⟨hl,-⟩,-⟩ -
 simp only [maxN] at hl
 simp only [arcsS,entEnv]
 repeat' (first | exact trivial | refine eS rfl ?_ | refine ev_out_inv ?_ | refine rX [0,1,4,5,6,10,35,38,51] hc ?_ ?_ | (refine rC (fun hcond=>?_) (fun hcond=>?_)<;>try (cases hcond;done)))
 refine ev_loop (ι:={k:Nat // k≤l.length∧arcsG n (l.take k) (l.drop k)=arcsF l n}) (fun k=>⟨[(0,.p T60 l),(1,.p T3 n),(5,.p (.int .i64) (k.1:Int))],[]⟩) (fun k=>l.length - k.1) ⟨0,by simp [arcsF]⟩ (ent_match [] rfl rfl ?_ ?_) (fun k=>?_)
 ·first | exact eN | refine eM ?_
 ·first | exact eN | refine eM ?_
 ·obtain ⟨k,hk,hall⟩:=k
  repeat' (first | exact trivial | refine eS rfl ?_ | refine ev_out_inv ?_ | refine rX [0,1,4,5,6,10,35,38,51] hc ?_ ?_ | (refine rC (fun hcond=>?_) (fun hcond=>?_)<;>try (cases hcond;done)))
  ·exact eV
  ·have hk:k < l.length:=by exact eV
   have h1:arcsF l n=2:=by
    rw [← hall,arcsG_step n l hk,if_pos (by rw [← or_assoc];exact hcond)]
   exact ev_fin hc [.tmp 4] rfl (.inl rfl) (by simp) (by rw [h1];first | exact eR | refine eRM ?_)
  ·have hk:k < l.length:=by exact eV
   have hn:¬ ((l.getD k (0,0)).1 < 0∨(l.getD k (0,0)).2 < 0∨n≤(l.getD k (0,0)).2):=by
    have:=hcond
    generalize l.getD k (0,0)=x at this
    exact eV
   rw [arcsG_step n l hk,if_neg hn] at hall
   refine ev_loop (ι:={j:Nat // j≤k∧((l.take j).any fun y=>y.1 == (l.getD k (0,0)).1)=false}) (fun j=>⟨[(0,.p T60 l),(1,.p T3 n),(5,.p (.int .i64) (k:Int)),(6,.p (.int .i64) (j.1:Int))],[]⟩) (fun j=>k - j.1) ⟨0,by simp⟩ (ent_match [] rfl rfl ?_ ?_) (fun j=>?_)
   ·first | exact eN | refine eM ?_
   ·first | exact eN | refine eM ?_
   ·obtain ⟨j,hj,hany⟩:=j
    repeat' (first | exact trivial | refine eS rfl ?_ | refine ev_out_inv ?_ | refine rX [0,1,4,5,6,10,35,38,51] hc ?_ ?_ | (refine rC (fun hcond=>?_) (fun hcond=>?_)<;>try (cases hcond;done)))
    ·exact eV
    ·have hjl:j < l.length:=by exact eV
     have h1:arcsF l n=4:=by
      have h2:((l.take k).any fun y=>y.1 == (l.getD k (0,0)).1)=true:=by
       rw [List.any_eq_true]
       refine ⟨l.getD j (0,0),?_,by simpa using hcond⟩
       rw [List.getD_eq_getElem?_getD,List.getElem?_eq_getElem hjl]
       exact List.mem_take_iff_getElem.2 ⟨j,by exact eV,rfl⟩
      rw [← hall,if_pos h2]
     exact ev_fin hc [.tmp 4] rfl (.inl rfl) (by simp) (by rw [h1];first | exact eR | refine eRM ?_)
    ·exact eV
    ·have hjl:j < l.length:=by exact eV
     refine ⟨⟨j + 1,by exact eV,?_⟩,by simp only;exact eV,ent_match [] rfl rfl ?_ ?_⟩
     ·have h2:=any_take_succ l (l.getD k (0,0)).1 hjl
      refine h2.trans ?_
      rw [hany]
      simpa using hcond
     ·first | exact eN | refine eM ?_
     ·first | exact eN | refine eM ?_
    ·exact eV
    ·have hjk:j=k:=by exact eV
     subst hjk
     refine ⟨⟨j + 1,by exact eV,?_⟩,by simp only;exact eV,ent_match [] rfl rfl ?_ ?_⟩
     ·rw [← hall,if_neg (by rw [hany];simp)]
     ·first | exact eN | refine eM ?_
     ·first | exact eN | refine eM ?_
  ·have h1:arcsF l n=0:=by
    have hk:l.length≤k:=by exact eV
    rw [← hall,List.drop_eq_nil_of_le hk];rfl
   exact ev_fin hc [.tmp 4] rfl (.inl rfl) (by simp) (by rw [h1];first | exact eR | refine eRM ?_)
end
/- Functions of grammarlabref07: numbers. -/
section
def numN (n:Int×List (Int×Int)):List Int:=n.1 :: (n.2.length:Int) :: n.2.flatMap fun a=>[a.1,a.2]
def numbersF (f:List (Int×List (Int×Int))):List Int:=(f.length:Int) :: f.flatMap numN
def numP (l:List (Int×List (Int×Int))) (k:Nat):List Int:=(l.length:Int) :: (l.take k).flatMap numN
def numQ (l:List (Int×List (Int×Int))) (k j:Nat):List Int:=numP l k++[(l.getD k (0,[])).1,((l.getD k (0,[])).2.length:Int)]++((l.getD k (0,[])).2.take j).flatMap fun a=>[a.1,a.2]
theorem pairs_len:∀ l:List (Int×Int),(l.flatMap fun a=>[a.1,a.2]).length=2 * l.length
 | []=>rfl
 | x :: l=>by simp [pairs_len l];omega
theorem numN_len (n:Int×List (Int×Int)):(numN n).length=2 + 2 * n.2.length:=by
 have:=pairs_len n.2
 simp only [numN,List.length_cons];omega
theorem flat_len:∀ l:List (Int×List (Int×Int)),(∀ n∈l,n.2.length≤100000)→(l.flatMap numN).length≤l.length * 200002
 | [],_=>by simp
 | x :: l,h=>by
  have h1:=h x (by simp)
  have h2:=flat_len l (fun n hn=>h n (by simp [hn]))
  have h3:=numN_len x
  simp only [List.flatMap_cons,List.length_append,List.length_cons]
  omega
theorem numP_len {l:List (Int×List (Int×Int))} (h:∀ n∈l,n.2.length≤100000) {k:Nat} (hk:k≤l.length):(numP l k).length≤1 + k * 200002:=by
 have h1:=flat_len (l.take k) (fun n hn=>h n (List.mem_of_mem_take hn))
 rw [List.length_take,Nat.min_eq_left hk] at h1
 simp only [numP,List.length_cons]
 omega
theorem numQ_len {l:List (Int×List (Int×Int))} (h:∀ n∈l,n.2.length≤100000) {k j:Nat} (hk:k < l.length) (hj:j≤(l.getD k (0,[])).2.length):(numQ l k j).length≤3 + k * 200002 + 2 * j:=by
 have h1:=numP_len h (Nat.le_of_lt hk)
 have h2:=pairs_len ((l.getD k (0,[])).2.take j)
 rw [List.length_take,Nat.min_eq_left hj] at h2
 simp only [numQ,List.length_append,List.length_cons,List.length_nil]
 omega
theorem numP_succ {l:List (Int×List (Int×Int))} {k:Nat} (hk:k < l.length):numP l (k + 1)=numQ l k (l.getD k (0,[])).2.length:=by
 unfold numP numQ
 rw [take_snoc l (0,[]) hk,List.flatMap_append,List.take_length]
 simp [numN,numP]
theorem numQ_succ {l:List (Int×List (Int×Int))} {k j:Nat} (hj:j < (l.getD k (0,[])).2.length):numQ l k (j + 1)=numQ l k j++[((l.getD k (0,[])).2.getD j (0,0)).1,((l.getD k (0,[])).2.getD j (0,0)).2]:=by
 unfold numQ
 rw [take_snoc _ (0,0) hj,List.flatMap_append]
 simp
def numbersS:Spec:={ ins:=[T25],pre:=fun (f,_)=>f.length≤100000∧∀ n∈f,n.2.length≤100000,out:=fun (f,_)=>[.p T41 (numbersF f)] }
theorem numbers_ok:FnOk Try.prog 56 numbersS:=by
 refine fn_ok Try.func56 (by kernel_rfl) rfl Try.ntmps56 (by decide) (by kernel_rfl) (tyTab_ok []) fns_nil ?_
 rintro w0 O0 ⟨l,u⟩ hc ⟨hl,-⟩ ⟨hp1,hp2⟩
 simp only [numbersS,entEnv]
 repeat' (first | exact trivial | refine eS rfl ?_ | refine ev_out_inv ?_ | refine rX [0,1,2,3,4,5,6,15,38] hc ?_ ?_ | (refine rC (fun hcond=>?_) (fun hcond=>?_)<;>try (cases hcond;done)))
 refine ev_loop (ι:={k:Nat // k≤l.length}) (fun k=>⟨[(0,.p T25 l),(1,.bp 1 [] 0),(3,.sr 10 T3 0 (numP l k.1).length),(4,.p (.int .i64) (k.1:Int))],[(1,.box 25 true [.p T23 l]),(10,.arr 3 T3 (numP l k.1))]⟩) (fun k=>l.length - k.1) ⟨0,by simp⟩ (ent_match [(1,.nm 1),(10,.nm 10)] rfl rfl ?_ ?_) (fun k=>?_)
 ·first | exact eN | refine eM ?_
  rfl
 ·first | exact eN | refine eM ?_
  rfl
 ·obtain ⟨k,hk⟩:=k
  have hn1:=numP_len hp2 hk
  repeat' (first | exact trivial | refine eS rfl ?_ | refine ev_out_inv ?_ | refine rX [0,1,2,3,4,5,6,15,38] hc ?_ ?_ | (refine rC (fun hcond=>?_) (fun hcond=>?_)<;>try (cases hcond;done)))
  ·exact eV
  ·refine ⟨by exact eV,?_⟩
   simp only [maxN];exact eV
  ·have hkl:k < l.length:=by exact eV
   have hp3:=hp2 _ (mem_of_take_succ l (0,[]) hkl)
   refine ev_loop (ι:={j:Nat // j≤(l.getD k (0,[])).2.length}) (fun j=>⟨[(0,.p T25 l),(1,.bp 1 [] 0),(3,.sr 10 T3 0 (numQ l k j.1).length),(4,.p (.int .i64) (k:Int)),(5,.p T60 (l.getD k (0,[])).2),(6,.p (.int .i64) (j.1:Int))],[(1,.box 25 true [.p T23 l]),(10,.arr 3 T3 (numQ l k j.1))]⟩) (fun j=>(l.getD k (0,[])).2.length - j.1) ⟨0,by simp⟩ (ent_match [(1,.nm 1),(10,.nm 10)] rfl rfl ?_ ?_) (fun j=>?_)
   ·first | exact eN | refine eM ?_
    simp [numQ]
   ·first | exact eN | refine eM ?_
    simp [numQ]
   ·obtain ⟨j,hj⟩:=j
    have hn2:=numQ_len hp2 hkl hj
    repeat' (first | exact trivial | refine eS rfl ?_ | refine ev_out_inv ?_ | refine rX [0,1,2,3,4,5,6,15,38] hc ?_ ?_ | (refine rC (fun hcond=>?_) (fun hcond=>?_)<;>try (cases hcond;done)))
    ·refine ⟨by exact eV,by exact eV,?_⟩
     simp only [maxN];exact eV
    ·exact eV
    ·have hjl:j < (l.getD k (0,[])).2.length:=by exact eV
     refine ⟨⟨j + 1,by exact eV⟩,by simp only;exact eV,ent_match [(1,.nm 1),(10,.nm 10)] rfl rfl ?_ ?_⟩
     ·first | exact eN | refine eM ?_
      exact (numQ_succ hjl).symm
     ·first | exact eN | refine eM ?_
      have:=congrArg List.length (numQ_succ (l:=l) hjl)
      rw [List.length_append] at this
      exact this.symm
    ·exact eV
    ·have hjk:j=(l.getD k (0,[])).2.length:=by exact eV
     subst hjk
     refine ⟨⟨k + 1,by exact eV⟩,by simp only;exact eV,ent_match [(1,.nm 1),(10,.nm 10)] rfl rfl ?_ ?_⟩
     ·first | exact eN | refine eM ?_
      exact (numP_succ hkl).symm
     ·first | exact eN | refine eM ?_
      exact congrArg List.length (numP_succ hkl).symm
  ·have hk:l.take k=l:=List.take_of_length_le (by exact eV)
   have h1:numP l k=numbersF l:=by unfold numP numbersF;rw [hk]
   exact ev_fin hc [.tmp 2] rfl (.inl rfl) (by simp) (by first | exact eR | refine eRM ?_;exact h1)
end
/- Functions of grammarlabref07: Compare, Equal. -/
section
attribute [local go_sem] numbersS
def cmpL:List Int→List Int→Int
 | x :: xs,y :: ys=>if x < y then -1 else if y < x then 1 else cmpL xs ys
 | _,_=>0
theorem cmpL_step (xs ys:List Int) {k:Nat} (h1:k < xs.length) (h2:k < ys.length):cmpL (xs.drop k) (ys.drop k)=if xs.getD k 0 < ys.getD k 0 then -1 else if ys.getD k 0 < xs.getD k 0 then 1 else cmpL (xs.drop (k + 1)) (ys.drop (k + 1)):=by
 rw [List.drop_eq_getElem_cons h1,List.drop_eq_getElem_cons h2,List.getD_eq_getElem?_getD,List.getElem?_eq_getElem h1,List.getD_eq_getElem?_getD,List.getElem?_eq_getElem h2]
 rfl
theorem cmpL_end (xs ys:List Int) {k:Nat} (h:xs.length≤k∨ys.length≤k):cmpL (xs.drop k) (ys.drop k)=0:=by
 rcases h with h | h
 ·rw [List.drop_eq_nil_of_le h];simp [cmpL]
 ·rw [List.drop_eq_nil_of_le h];simp [cmpL]
def compareF (a b:List (Int×List (Int×Int))):Int:=cmpL (numbersF a) (numbersF b)
def SmallF (f:List (Int×List (Int×Int))):Prop:=f.length≤100000∧∀ n∈f,n.2.length≤100000
def compareS:Spec:={ ins:=[T25,T25],pre:=fun (a,b,_)=>SmallF a∧SmallF b,out:=fun (a,b,_)=>[.p T3 (compareF a b)] }
theorem numbersF_len {f:List (Int×List (Int×Int))} (h:SmallF f):(numbersF f).length≤1 + f.length * 200002:=by
 have:=flat_len f h.2
 simp only [numbersF,List.length_cons];omega
theorem compare_ok:FnOk Try.prog 34 compareS:=by
 refine fn_ok Try.func34 (by kernel_rfl) rfl Try.ntmps34 (by decide) (by kernel_rfl) (tyTab_ok [(56,numbersS)]) (fns_cons numbers_ok fns_nil) ?_
 rintro w0 O0 ⟨a,b,u⟩ hc - ⟨⟨ha1,ha2⟩,⟨hb1,hb2⟩⟩
 have hla:=numbersF_len ⟨ha1,ha2⟩
 have hlb:=numbersF_len ⟨hb1,hb2⟩
 simp only [compareS,entEnv]
 repeat' (first | exact trivial | refine eS rfl ?_ | refine ev_out_inv ?_ | refine rX [0,1,2,3,4,5,6,7,21,32,41] hc ?_ ?_ | (refine rC (fun hcond=>?_) (fun hcond=>?_)<;>try (cases hcond;done)))
 ·exact ⟨ha1,ha2⟩
 ·exact ⟨hb1,hb2⟩
 ·refine ev_loop (ι:={k:Nat // cmpL ((numbersF a).drop k) ((numbersF b).drop k)=compareF a b}) (fun k=>⟨[(5,.p T41 (numbersF a)),(6,.p T41 (numbersF b)),(7,.p (.int .i64) (k.1:Int))],[]⟩) (fun k=>(numbersF a).length - k.1) ⟨0,by simp [compareF]⟩ (ent_match [] rfl rfl ?_ ?_) (fun k=>?_)
  ·first | exact eN | refine eM ?_
  ·first | exact eN | refine eM ?_
  ·obtain ⟨k,hk⟩:=k
   repeat' (first | exact trivial | refine eS rfl ?_ | refine ev_out_inv ?_ | refine rX [0,1,2,3,4,5,6,7,21,32,41] hc ?_ ?_ | (refine rC (fun hcond=>?_) (fun hcond=>?_)<;>try (cases hcond;done)))
   ·exact eV
   ·obtain ⟨h1,h2⟩:k < (numbersF a).length∧k < (numbersF b).length:=by exact eV
    have h3:compareF a b=-1:=by rw [← hk,cmpL_step _ _ h1 h2,if_pos hcond]
    exact ev_fin hc [.tmp 4] rfl (.inl rfl) (by simp) (by rw [h3];first | exact eR | refine eRM ?_)
   ·exact eV
   ·obtain ⟨h1,h2⟩:k < (numbersF a).length∧k < (numbersF b).length:=by exact eV
    have h3:compareF a b=1:=by rw [← hk,cmpL_step _ _ h1 h2,if_neg (by exact eV),if_pos hcond]
    exact ev_fin hc [.tmp 4] rfl (.inl rfl) (by simp) (by rw [h3];first | exact eR | refine eRM ?_)
   ·exact eV
   ·obtain ⟨h1,h2⟩:k < (numbersF a).length∧k < (numbersF b).length:=by exact eV
    refine ⟨⟨k + 1,?_⟩,by simp only;exact eV,ent_match [] rfl rfl ?_ ?_⟩
    ·rw [← hk,cmpL_step _ _ h1 h2,if_neg (by exact eV),if_neg (by exact eV)]
    ·first | exact eN | refine eM ?_
    ·first | exact eN | refine eM ?_
   ·have h3:compareF a b=0:=by
     rw [← hk]
     apply cmpL_end
     by_cases h:k < (numbersF a).length
     ·right;have:=hcond (by exact eV);exact eV
     ·left;exact eV
    exact ev_fin hc [.tmp 4] rfl (.inl rfl) (by simp) (by rw [h3];first | exact eR | refine eRM ?_)
def equalS:Spec:={ ins:=[T25,T25],pre:=fun (a,b,_)=>SmallF a∧SmallF b,out:=fun (a,b,_)=>[.p .bool (compareF a b == 0)] }
end
/- Functions of grammarlabref07: Equal, form. -/
section
attribute [local go_sem] compareS arcsS
theorem equal_ok:FnOk Try.prog 13 equalS:=by
 refine fn_ok Try.func13 (by kernel_rfl) rfl Try.ntmps13 (by decide) (by kernel_rfl) (tyTab_ok [(34,compareS)]) (fns_cons compare_ok fns_nil) ?_
 rintro w0 O0 ⟨a,b,u⟩ hc - hpre
 simp only [equalS,entEnv]
 repeat' (first | exact trivial | refine eS rfl ?_ | refine ev_out_inv ?_ | refine rX [0,1,2,3,4] hc ?_ ?_ | (refine rC (fun hcond=>?_) (fun hcond=>?_)<;>try (cases hcond;done)))
 ·exact hpre
 ·exact ev_fin hc [.tmp 4] rfl (.inl rfl) (by simp) (by first | exact eR | refine eRM ?_)
def formG (m:Int):List (Int×List (Int×Int))→Int
 | []=>0
 | n :: r=>if n.1 < 0 then 2 else if arcsF n.2 m≠0 then arcsF n.2 m else formG m r
def formF (f:List (Int×List (Int×Int))):Int:=if f.length=0 then 1 else if 4096 < f.length then 7 else formG f.length f
def formS:Spec:={ ins:=[T25],pre:=fun _=>True,out:=fun (f,_)=>[.p T52 (formF f)] }
theorem formG_step (m:Int) (l:List (Int×List (Int×Int))) {k:Nat} (h:k < l.length):formG m (l.drop k)=if (l.getD k (0,[])).1 < 0 then 2 else if arcsF (l.getD k (0,[])).2 m≠0 then arcsF (l.getD k (0,[])).2 m else formG m (l.drop (k + 1)):=by
 rw [List.drop_eq_getElem_cons h,List.getD_eq_getElem?_getD,List.getElem?_eq_getElem h]
 rfl
theorem form_ok:FnOk Try.prog 58 formS:=by
 refine fn_ok Try.func58 (by kernel_rfl) rfl Try.ntmps58 (by decide) (by kernel_rfl) (tyTab_ok [(82,arcsS)]) (fns_cons arcs_ok fns_nil) ?_
 rintro w0 O0 ⟨l,u⟩ hc ⟨hl,-⟩ -
 simp only [formS,entEnv]
 repeat' (first | exact trivial | refine eS rfl ?_ | refine ev_out_inv ?_ | refine rX [0,1,2,3,4,8,12,17,26,38] hc ?_ ?_ | (refine rC (fun hcond=>?_) (fun hcond=>?_)<;>try (cases hcond;done)))
 ·have h1:formF l=1:=by
   have h:l.length=0:=by exact eV
   unfold formF
   rw [if_pos h]
  exact ev_fin hc [.tmp 2] rfl (.inl rfl) (by simp) (by rw [h1];first | exact eR | refine eRM ?_)
 ·have h1:formF l=7:=by
   have h:¬ l.length=0:=by exact eV
   have h':4096 < l.length:=by exact eV
   unfold formF
   rw [if_neg h,if_pos h']
  exact ev_fin hc [.tmp 2] rfl (.inl rfl) (by simp) (by rw [h1];first | exact eR | refine eRM ?_)
 ·have h1:formF l=formG l.length l:=by
   have h:¬ l.length=0:=by exact eV
   have h':¬ 4096 < l.length:=by exact eV
   unfold formF
   rw [if_neg h,if_neg h']
  refine ev_loop (ι:={k:Nat // k≤l.length∧formG l.length (l.drop k)=formF l}) (fun k=>⟨[(1,.bp 1 [] 0),(3,.p (.int .i64) (k.1:Int))],[(1,.box 25 true [.p T23 l])]⟩) (fun k=>l.length - k.1) ⟨0,by simp [h1]⟩ (ent_match [(1,.nm 1)] rfl rfl ?_ ?_) (fun k=>?_)
  ·first | exact eN | refine eM ?_
  ·first | exact eN | refine eM ?_
  ·obtain ⟨k,hk,hf⟩:=k
   repeat' (first | exact trivial | refine eS rfl ?_ | refine ev_out_inv ?_ | refine rX [0,1,2,3,4,8,12,17,26,38] hc ?_ ?_ | (refine rC (fun hcond=>?_) (fun hcond=>?_)<;>try (cases hcond;done)))
   ·exact eV
   ·have hkl:k < l.length:=by exact eV
    have h2:formF l=2:=by rw [← hf,formG_step _ _ hkl,if_pos hcond]
    exact ev_fin hc [.tmp 2] rfl (.inl rfl) (by simp) (by rw [h2];first | exact eR | refine eRM ?_)
   ·exact eV
   ·have hkl:k < l.length:=by exact eV
    have h2:formF l=arcsF (l.getD k (0,[])).2 l.length:=by rw [← hf,formG_step _ _ hkl,if_neg (by exact eV),if_pos hcond]
    exact ev_fin hc [.tmp 2] rfl (.inl rfl) (by simp) (by rw [h2];first | exact eR | refine eRM ?_)
   ·exact eV
   ·have hkl:k < l.length:=by exact eV
    refine ⟨⟨k + 1,by exact eV,?_⟩,by simp only;exact eV,ent_match [(1,.nm 1)] rfl rfl ?_ ?_⟩
    ·rw [← hf,formG_step _ _ hkl,if_neg (by exact eV),if_neg (by simpa using hcond)]
    ·first | exact eN | refine eM ?_
    ·first | exact eN | refine eM ?_
   ·have h2:formF l=0:=by
     have hk:l.length≤k:=by exact eV
     rw [← hf,List.drop_eq_nil_of_le hk];rfl
    exact ev_fin hc [.tmp 2] rfl (.inl rfl) (by simp) (by rw [h2];first | exact eR | refine eRM ?_)
end
/- The contract of functions of the program: Sorted. -/
section
def posF (x:Int×Int) (s:List (Int×Int)):Nat→Nat
 | 0=>0
 | n + 1=>if x.1 < (s.getD n (0,0)).1 then posF x s n else n + 1
def insF (s:List (Int×Int)) (x:Int×Int):List (Int×Int):=s.take (posF x s s.length)++[x]++s.drop (posF x s s.length)
def sortedF (l:List (Int×Int)):List (Int×Int):=l.foldl insF []
theorem posF_le (x:Int×Int) (s:List (Int×Int)):∀ n,posF x s n≤n
 | 0=>Nat.le_refl _
 | n + 1=>by
  unfold posF
  have:=posF_le x s n
  split<;>omega
theorem insF_len (s:List (Int×Int)) (x:Int×Int):(insF s x).length=s.length + 1:=by
 have:=posF_le x s s.length
 simp [insF];omega
theorem sortedF_snoc (l:List (Int×Int)) (x:Int×Int):sortedF (l++[x])=insF (sortedF l) x:=by simp [sortedF]
theorem foldl_insF_len:∀ (l s:List (Int×Int)),(l.foldl insF s).length=s.length + l.length
 | [],s=>by simp
 | x :: l,s=>by simp [foldl_insF_len l,insF_len];omega
theorem sortedF_len (l:List (Int×Int)):(sortedF l).length=l.length:=by simp [sortedF,foldl_insF_len]
def sortedS:Spec:={ ins:=[T60],pre:=fun (l,_)=>l.length≤1000000,out:=fun (l,_)=>[.own 78 T78 (sortedF l)] }
theorem sorted_ok:FnOk Try.prog 84 sortedS:=by
 refine fn_ok Try.func84 (by kernel_rfl) rfl Try.ntmps84 (by decide) (by kernel_rfl) (tyTab_ok []) fns_nil ?_
 rintro w0 O0 ⟨l,u⟩ hc hok hpre
 simp only [sortedS] at hpre
 simp only [sortedS,entEnv]
 repeat' (first | exact trivial | refine eS rfl ?_ | refine ev_out_inv ?_ | refine rX [0,2,3,4,5,6,10,30] hc ?_ ?_ | (refine rC (fun hcond=>?_) (fun hcond=>?_)<;>try (cases hcond;done)))
 refine ev_loop (ι:={p:Nat // p≤l.length}) (fun k=>⟨[(0,.p T60 l),(3,.sr 10 T78 0 (sortedF (l.take k.1)).length),(4,.p (.int .i64) (k.1:Int))],[(10,.arr 78 T78 (sortedF (l.take k.1)))]⟩) (fun k=>l.length - k.1) ⟨0,by omega⟩ (ent_match [(10,.nil)] rfl rfl ?_ ?_) (fun k=>?_)
 ·first | exact eN | refine eM ?_
  rfl
 ·first | exact eN | refine eM ?_
  rfl
 ·obtain ⟨k,hI⟩:=k
  have hlen:(sortedF (l.take k)).length=k:=by rw [sortedF_len,List.length_take];exact Nat.min_eq_left hI
  repeat' (first | exact trivial | refine eS rfl ?_ | refine ev_out_inv ?_ | refine rX [0,2,3,4,5,6,10,30] hc ?_ ?_ | (refine rC (fun hcond=>?_) (fun hcond=>?_)<;>try (cases hcond;done)))
  ·refine ev_loop (ι:={q:Nat // q≤(sortedF (l.take k)).length∧posF (l.getD k (0,0)) (sortedF (l.take k)) q=posF (l.getD k (0,0)) (sortedF (l.take k)) (sortedF (l.take k)).length}) (fun q=>⟨[(0,.p T60 l),(3,.sr 10 T78 0 (sortedF (l.take k)).length),(4,.p (.int .i64) (k:Int)),(5,.p (.int .i64) (q.1:Int))],[(10,.arr 78 T78 (sortedF (l.take k)))]⟩) (fun q=>q.1) ⟨(sortedF (l.take k)).length,by simp⟩ (ent_match [(10,.nm 10)] rfl rfl ?_ ?_) (fun q=>?_)
   ·first | exact eN | refine eM ?_
   ·first | exact eN | refine eM ?_
   ·obtain ⟨q,hq,hp⟩:=q
    have hkl:k < l.length:=by omega
    have e1:=l.length_take_le k
    have e2:(List.take q (sortedF (List.take k l))).length=q:=by rw [List.length_take];exact Nat.min_eq_left hq
    repeat' (first | exact trivial | refine eS rfl ?_ | refine ev_out_inv ?_ | refine rX [0,2,3,4,5,6,10,30] hc ?_ ?_ | (refine rC (fun hcond=>?_) (fun hcond=>?_)<;>try (cases hcond;done)))
    ·exact eV
    ·exact eV
    ·obtain ⟨h1,h2⟩:=hcond
     obtain ⟨q,rfl⟩:∃ r,q=r + 1:=⟨q - 1,by omega⟩
     have h3:((q + 1:Nat):Int) - 1=(q:Int):=by omega
     refine ⟨⟨q,by omega,?_⟩,Nat.lt_succ_self q,ent_match [(10,.nm 10)] rfl rfl ?_ ?_⟩
     ·rw [← hp]
      simp only [posF]
      rw [h3,Int.toNat_natCast] at h2
      rw [if_pos h2]
     ·first | exact eN | refine eM ?_
     ·first | exact eN | refine eM ?_
      show (q:Int) + 1 - 1=q
      omega
    ·refine ⟨by exact eV,?_⟩
     rw [e2];unfold maxN;omega
    ·refine ⟨by exact eV,?_⟩
     rw [e2];simp only [maxN];omega
    ·refine ⟨by exact eV,?_⟩
     rw [e2];simp only [maxN,List.length_drop];omega
    ·exact eV
    ·have hpos:posF (l.getD k (0,0)) (sortedF (l.take k)) q=q:=by
      cases q with
      | zero=>rfl
      | succ q =>
       have h3:((q + 1:Nat):Int) - 1=(q:Int):=by omega
       have:=hcond (by omega)
       rw [h3,Int.toNat_natCast] at this
       simp only [posF]
       rw [if_neg (by omega)]
     have h1:=take_snoc l (0,0) hkl
     have h2:sortedF (l.take (k + 1))=_:=(congrArg sortedF h1).trans (sortedF_snoc _ _)
     unfold insF at h2
     rw [← hp,hpos] at h2
     refine ⟨⟨k + 1,by exact eV⟩,by simp only;exact eV,ent_match [(10,.nm 37)] rfl rfl ?_ ?_⟩
     ·first | exact eN | refine eM ?_
      exact h2.symm
     ·first | exact eN | refine eM ?_
      have h4:=congrArg List.length h2
      rw [List.length_append,List.length_append] at h4
      exact h4.symm
  ·have hk:l.take k=l:=List.take_of_length_le (by exact eV)
   refine ev_fin_own hc (.inl rfl) (rv:=.tmp 2) rfl ?_
   simp only [resIs,resV,ownOf,go_sem,Nat.reduceEqDiff,reduceCtorEq,Nat.reduceAdd,Nat.reduceSub,Nat.reduceMul,Nat.reduceLeDiff,Nat.reduceLT,Int.reduceLE,Int.reduceToNat,Int.reduceNeg,↓reduceIte]
   rw [hk]
   first | rfl | exact ⟨rfl,rfl⟩ | exact ⟨rfl,rfl,rfl⟩
end
/- Functions of grammarlabref07: visit. -/
section
attribute [local go_sem] sortedS
abbrev GNode:=Int×List (Int×Int)
def visitF (f:List GNode):Nat→List Int×List Int→Int→List Int×List Int
 | 0,s,_=>s
 | k + 1,s,n=>(sortedF (f.getD n.toNat (0,[])).2).foldl (fun s a=>if s.1.getD a.2.toNat 0 < 0 then visitF f k s a.2 else s) (s.1.set n.toNat (s.2.length:Int),s.2++[n])
def negC (l:List Int):Nat:=l.countP (fun x=>decide (x < 0))
def GoodF (f:List GNode):Prop:=f.length≤100000∧∀ x∈f,x.2.length≤100000∧∀ a∈x.2,0≤a.2∧a.2 < (f.length:Int)
def TrOk (f:List GNode) (s:List Int×List Int):Prop:=s.1.length=f.length∧s.2.length + negC s.1≤f.length
theorem negC_set {l:List Int} {n:Nat} {v:Int} (hn:n < l.length) (hneg:l.getD n 0 < 0) (hv:0≤v):negC (l.set n v) + 1=negC l:=by
 induction l generalizing n with
 | nil=>simp at hn
 | cons x r ih =>
  cases n with
  | zero =>
   have hx:x < 0:=by simpa using hneg
   have:¬ v < 0:=by omega
   simp [negC,List.countP_cons,hx,this]
  | succ n =>
   have h1:=ih (n:=n) (by simpa using hn) (by simpa using hneg)
   simp only [negC,List.set_cons_succ,List.countP_cons] at h1 ⊢
   omega
theorem tr_set {f:List GNode} {s:List Int×List Int} {n:Int} (h:TrOk f s) (hn0:0≤n) (hn:n < f.length) (hneg:s.1.getD n.toNat 0 < 0) :
  TrOk f (s.1.set n.toNat (s.2.length:Int),s.2++[n])∧negC (s.1.set n.toNat (s.2.length:Int)) + 1=negC s.1:=by
 obtain ⟨h1,h2⟩:=h
 have h3:=negC_set (l:=s.1) (n:=n.toNat) (v:=(s.2.length:Int)) (by omega) hneg (by omega)
 refine ⟨⟨by simpa using h1,?_⟩,h3⟩
 simp only [List.length_append,List.length_singleton]
 omega
theorem insF_perm (s:List (Int×Int)) (x:Int×Int):(insF s x).Perm (x :: s):=by
 unfold insF
 refine (List.perm_append_comm.append_right _).trans ?_
 simp
theorem foldl_insF_perm:∀ (l s:List (Int×Int)),(l.foldl insF s).Perm (l++s)
 | [],s=>List.Perm.refl _
 | x :: l,s=>by
  refine (foldl_insF_perm l (insF s x)).trans ?_
  refine (List.Perm.append_left l (insF_perm s x)).trans ?_
  exact List.perm_middle
theorem sortedF_perm (l:List (Int×Int)):(sortedF l).Perm l:=by
 have:=foldl_insF_perm l []
 simpa [sortedF] using this
theorem arcs_len {f:List GNode} (hf:GoodF f) (n:Int):List.length (f.getD n.toNat (0,[])).2≤100000:=by
 by_cases h:n.toNat < f.length
 ·have hm:f.getD n.toNat (0,[])∈f:=by
   rw [List.getD_eq_getElem?_getD,List.getElem?_eq_getElem h];exact List.getElem_mem h
  exact (hf.2 _ hm).1
 ·rw [List.getD_eq_getElem?_getD,List.getElem?_eq_none (by omega)]
  simp
theorem arcs_of {f:List GNode} (hf:GoodF f) {n:Int} {a:Int×Int} (ha:a∈sortedF (f.getD n.toNat (0,[])).2):0≤a.2∧a.2 < f.length:=by
 have ha:=(sortedF_perm _).mem_iff.1 ha
 by_cases h:n.toNat < f.length
 ·have hm:f.getD n.toNat (0,[])∈f:=by
   rw [List.getD_eq_getElem?_getD,List.getElem?_eq_getElem h];exact List.getElem_mem h
  exact (hf.2 _ hm).2 a ha
 ·rw [List.getD_eq_getElem?_getD,List.getElem?_eq_none (by omega)] at ha
  simp at ha
def stepV (f:List GNode) (k:Nat) (s:List Int×List Int) (a:Int×Int):List Int×List Int:=if s.1.getD a.2.toNat 0 < 0 then visitF f k s a.2 else s
theorem visitF_succ (f:List GNode) (k:Nat) (s:List Int×List Int) (n:Int):visitF f (k + 1) s n=(sortedF (f.getD n.toNat (0,[])).2).foldl (stepV f k) (s.1.set n.toNat (s.2.length:Int),s.2++[n]):=rfl
theorem fold_ok {f:List GNode} {k:Nat} (hv:∀ (s:List Int×List Int) (n:Int),TrOk f s→0≤n→n < f.length→s.1.getD n.toNat 0 < 0→TrOk f (visitF f k s n)∧negC (visitF f k s n).1≤negC s.1) :
  ∀ (l:List (Int×Int)) (t:List Int×List Int),(∀ a∈l,0≤a.2∧a.2 < (f.length:Int))→TrOk f t→TrOk f (l.foldl (stepV f k) t)∧negC (l.foldl (stepV f k) t).1≤negC t.1
 | [],t,_,ht=>⟨ht,Nat.le_refl _⟩
 | a :: l,t,hl,ht=>by
  simp only [List.foldl_cons]
  by_cases hc:t.1.getD a.2.toNat 0 < 0
  ·obtain ⟨g1,g2⟩:=hv t a.2 ht (hl a (by simp)).1 (hl a (by simp)).2 hc
   have e:stepV f k t a=visitF f k t a.2:=if_pos hc
   rw [e]
   obtain ⟨g3,g4⟩:=fold_ok hv l _ (fun b hb=>hl b (by simp [hb])) g1
   exact ⟨g3,Nat.le_trans g4 g2⟩
  ·have e:stepV f k t a=t:=if_neg hc
   rw [e]
   exact fold_ok hv l t (fun b hb=>hl b (by simp [hb])) ht
theorem visitF_ok {f:List GNode} (hf:GoodF f):∀ (k:Nat) (s:List Int×List Int) (n:Int),TrOk f s→0≤n→n < f.length→s.1.getD n.toNat 0 < 0→TrOk f (visitF f k s n)∧negC (visitF f k s n).1≤negC s.1
 | 0,s,n,h,_,_,_=>⟨h,Nat.le_refl _⟩
 | k + 1,s,n,h,h0,h1,h2=>by
  obtain ⟨h3,h4⟩:=tr_set h h0 h1 h2
  obtain ⟨g1,g2⟩:=fold_ok (visitF_ok hf k) _ _ (fun a ha=>arcs_of hf ha) h3
  rw [visitF_succ]
  exact ⟨g1,by simp only at g2 h4;omega⟩
theorem fold_take {α β:Type} (g:β→α→β) (l:List α) (d:α) (t:β) {i:Nat} (hi:i < l.length):(l.take (i + 1)).foldl g t=g ((l.take i).foldl g t) (l.getD i d):=by
 rw [take_snoc l d hi,List.foldl_append];rfl
def wObjs (f:List GNode) (s:List Int×List Int):List (Nat×Obj):=[(1,.box 149 true [.p T25 f,.sr 2 T3 0 s.1.length,.sr 3 T3 0 s.2.length]),(2,.arr 3 T3 s.1),(3,.arr 3 T3 s.2)]
theorem visit_ok (f:List GNode) (hf:GoodF f):∀ (k:Nat) (s:List Int×List Int) (n:Int),TrOk f s→0≤n→n < f.length→s.1.getD n.toNat 0 < 0→negC s.1≤k →
  CallM Try.prog 83 [.bp 1 [] 0,.p T3 n] (wObjs f s) [1] (fun res objs'=>res=.raw (.tuple #[])∧objs'=wObjs f (visitF f k s n)):=by
 intro k
 induction k with
 | zero =>
  intro s n h0 h1 h2 h3 h4
  obtain ⟨_,h5⟩:=tr_set h0 h1 h2 h3
  omega
 | succ k ih =>
  intro s n htr hn0 hn1 hneg hk
  obtain ⟨num,ord⟩:=s
  obtain ⟨htr',hcnt⟩:=tr_set htr hn0 hn1 hneg
  obtain ⟨hl1,hl2⟩:=htr
  simp only at hl1 hl2 hneg htr' hcnt hk
  refine fnM_ok Try.func83 (by kernel_rfl) rfl Try.ntmps83 (by simp only [List.length_cons,List.length_nil];omega) (by kernel_rfl) rfl rfl (tyTab_ok [(84,sortedS)]) (fns_cons sorted_ok fns_nil) ?_
  intro w0 K O0 ρ0 hc hok1 hok2
  simp only [wObjs,argEnv]
  repeat' (first | exact trivial | refine eS rfl ?_ | refine ev_out_inv ?_ | refine rX [0,1,4,5,40,54] hc ?_ ?_ | (refine rC (fun hcond=>?_) (fun hcond=>?_)<;>try (cases hcond;done)))
  ·exact eV
  ·have:=hf.1
   simp only [maxN];omega
  ·have hm:=arcs_len hf n
   exact ⟨⟨hn0,hn1⟩,Nat.le_trans hm (by omega)⟩
  ·have harcs:=fun a (ha:a∈sortedF (f.getD n.toNat (0,[])).2)=>arcs_of hf ha
   have hLlen:(sortedF (f.getD n.toNat (0,[])).2).length≤100000:=by rw [sortedF_len];exact arcs_len hf n
   generalize hL:sortedF (f.getD n.toNat (0,[])).2=L at harcs hLlen
   generalize hs1:(num.set n.toNat (ord.length:Int),ord++[n])=s1 at htr'
   have hfold:∀ i,TrOk f ((L.take i).foldl (stepV f k) s1)∧negC ((L.take i).foldl (stepV f k) s1).1≤negC s1.1:=fun i=>fold_ok (visitF_ok hf k) _ _ (fun a ha=>harcs a (List.mem_of_mem_take ha)) htr'
   have hn1:num.set n.toNat (ord.length:Int)=s1.1:=by rw [← hs1]
   have ho1:ord++[n]=s1.2:=by rw [← hs1]
   rw [hn1] at hcnt
   refine ev_loop (ι:={i:Nat // i≤L.length}) (fun i=>⟨[(0,.bp 1 [] 0),(1,.p T3 n),(4,.p T60 L),(5,.p (.int .i64) (i.1:Int))],wObjs f ((L.take i.1).foldl (stepV f k) s1)⟩) (fun i=>L.length - i.1) ⟨0,by omega⟩ (frzT [36] (ent_match [(1,.nm 1),(2,.nm 2),(3,.nm 3)] rfl rfl ?_ ?_)) (fun i=>?_)
   ·simp only [wObjs]
    first | exact eN | refine eM ?_
    simp only [List.foldl_nil]
    rw [← hs1]
    simp
   ·first | exact eN | refine eM ?_
   ·obtain ⟨i,hi⟩:=i
    obtain ⟨hti,hci⟩:=hfold i
    have hnext:=fun (h:i < L.length)=>fold_take (stepV f k) L (0,0) s1 h
    generalize hsi:(L.take i).foldl (stepV f k) s1=si at hti hci hnext
    simp only [wObjs]
    repeat' (first | exact trivial | refine eS rfl ?_ | refine ev_out_inv ?_ | refine rX [0,1,4,5,40,54] hc ?_ ?_ | (refine rC (fun hcond=>?_) (fun hcond=>?_)<;>try (cases hcond;done)))
    ·have hiL:i < L.length:=by exact eV
     have:=harcs _ (mem_of_take_succ L (0,0) hiL)
     obtain ⟨h1,h2⟩:=hti
     refine ⟨by exact eV,this.1,?_⟩
     rw [h1]
     exact this.2
    ·have hiL:i < L.length:=by exact eV
     have hr:=harcs _ (mem_of_take_succ L (0,0) hiL)
     refine cP 6 hc ?_ ?_
     ·exact eV
     ·refine rM hc (ih si (L.getD i (0,0)).2 hti hr.1 hr.2 (by simpa using hcond) (by omega)) [(1,.nm 1),(2,.nm 2),(3,.nm 3)] [2,3] ?_ ?_ ?_
      ·first | exact eN | refine eM ?_
      ·simp only [wObjs]
       first | exact eN | refine eM ?_
      ·rintro _ _ ⟨rfl,rfl⟩
       refine ⟨[(1,.nm 1),(2,.nm 2),(3,.nm 3)],.raw (.tuple #[]),wObjs f (visitF f k si (L.getD i (0,0)).2),rfl,rfl,?_,?_,rfl,rfl,evL_end ?_⟩
       ·simp only [wObjs]
        first | exact eN | refine eM ?_
       ·first | exact eN | refine eM ?_
       ·repeat' (first | exact trivial | refine eS rfl ?_ | refine ev_out_inv ?_ | refine rX [0,1,4,5,40,54] hc ?_ ?_ | (refine rC (fun hcond=>?_) (fun hcond=>?_)<;>try (cases hcond;done)))
        ·exact eV
        ·have e:stepV f k si (L.getD i (0,0))=visitF f k si (L.getD i (0,0)).2:=if_pos (by simpa using hcond)
         refine ⟨⟨i + 1,by omega⟩,by simp only;omega,ent_match [(1,.nm 1),(2,.nm 2),(3,.nm 3)] rfl rfl ?_ ?_⟩
         ·simp only [wObjs,hnext hiL,e]
          first | exact eN | refine eM ?_
         ·first | exact eN | refine eM ?_
    ·exact eV
    ·have hiL:i < L.length:=by exact eV
     have e:stepV f k si (L.getD i (0,0))=si:=if_neg (by simpa using hcond)
     refine ⟨⟨i + 1,by omega⟩,by simp only;omega,ent_match [(1,.nm 1),(2,.nm 2),(3,.nm 3)] rfl rfl ?_ ?_⟩
     ·simp only [hnext hiL,e]
      first | exact eN | refine eM ?_
     ·first | exact eN | refine eM ?_
    ·have hk:L.take i=L:=List.take_of_length_le (by exact eV)
     rw [hk] at hsi
     have h1:visitF f (k + 1) (num,ord) n=si:=by rw [visitF_succ,hL,← hsi,← hs1]
     rw [h1]
     exact ev_finM hc [] rfl (.inr rfl) (.raw (.tuple #[])) rfl ⟨rfl,rfl⟩
end
/- Functions of grammarlabref07: From. -/
section
attribute [local go_sem] sortedS
def OrdOk (f:List GNode) (s:List Int×List Int):Prop:=∀ n∈s.2,0≤n∧n < (f.length:Int)
theorem visitF_ord {f:List GNode} (hf:GoodF f):∀ (k:Nat) (s:List Int×List Int) (n:Int),OrdOk f s→0≤n→n < f.length→OrdOk f (visitF f k s n)
 | 0,s,n,h,_,_=>h
 | k + 1,s,n,h,h0,h1=>by
  rw [visitF_succ]
  have key:∀ (l:List (Int×Int)) (t:List Int×List Int),(∀ a∈l,0≤a.2∧a.2 < (f.length:Int))→OrdOk f t→OrdOk f (l.foldl (stepV f k) t):=by
   intro l
   induction l with
   | nil=>intro t _ ht;exact ht
   | cons a l ih =>
    intro t hl ht
    simp only [List.foldl_cons]
    refine ih _ (fun b hb=>hl b (by simp [hb])) ?_
    unfold stepV
    split
    ·exact visitF_ord hf k t a.2 ht (hl a (by simp)).1 (hl a (by simp)).2
    ·exact ht
  refine key _ _ (fun a ha=>arcs_of hf ha) ?_
  intro m hm
  simp only [List.mem_append,List.mem_singleton] at hm
  rcases hm with hm | rfl
  ·exact h m hm
  ·exact ⟨h0,h1⟩
def travF (f:List GNode) (root:Int):List Int×List Int:=visitF f f.length (List.replicate f.length (-1),[]) root
def renA (num:List Int) (a:Int×Int):Int×Int:=(a.1,num.getD a.2.toNat 0)
def nodeF (f:List GNode) (num:List Int) (n:Int):GNode:=((f.getD n.toNat (0,[])).1,(sortedF (f.getD n.toNat (0,[])).2).map (renA num))
def fromF (f:List GNode) (root:Int):List GNode:=(travF f root).2.map (nodeF f (travF f root).1)
theorem negC_rep (m:Nat):negC (List.replicate m (-1))=m:=by
 induction m with
 | zero=>rfl
 | succ m ih=>simp only [negC,List.replicate_succ,List.countP_cons] at ih ⊢;simp [ih]
theorem tr0 (f:List GNode):TrOk f (List.replicate f.length (-1),[]):=⟨by simp,by simp [negC_rep]⟩
theorem rep_neg {f:List GNode} {n:Int} (h0:0≤n) (h1:n < f.length):(List.replicate f.length (-1:Int)).getD n.toNat 0 < 0:=by
 have:n.toNat < f.length:=by omega
 simp [List.getD_eq_getElem?_getD,List.getElem?_replicate,this]
theorem trav_ok {f:List GNode} (hf:GoodF f) {n:Int} (h0:0≤n) (h1:n < f.length):TrOk f (travF f n)∧OrdOk f (travF f n) :=
 ⟨(visitF_ok hf _ _ n (tr0 f) h0 h1 (rep_neg h0 h1)).1,visitF_ord hf _ _ n (fun m hm=>by simp at hm) h0 h1⟩
theorem map_part {α β:Type} (g:α→β) (h:β→α) (L:List α) (d:α) {k:Nat} (hk:k < L.length) (u:α→α):((L.take k).map u++L.drop k).set k (u (L.getD k d))=(L.take (k + 1)).map u++L.drop (k + 1)∧((L.take k).map u++L.drop k).getD k d=L.getD k d:=by
 have h1:((L.take k).map u).length=k:=by simp;omega
 have h2:L.drop k=L.getD k d :: L.drop (k + 1):=by
  rw [List.drop_eq_getElem_cons hk,List.getD_eq_getElem?_getD,List.getElem?_eq_getElem hk];rfl
 constructor
 ·rw [take_snoc L d hk,List.set_append_right _ _ (by omega),h1,Nat.sub_self,h2]
  simp
 ·rw [List.getD_eq_getElem?_getD,List.getElem?_append_right (by omega),h1,Nat.sub_self,h2];rfl
def fromS:Spec:={ ins:=[T25,T3],pre:=fun (f,n,_)=>GoodF f∧0≤n∧n < (List.length f:Int),out:=fun (f,n,_)=>[.p T25 (fromF f n)] }
theorem from_ok:FnOk Try.prog 59 fromS:=by
 refine fn_ok Try.func59 (by kernel_rfl) rfl Try.ntmps59 (by decide) (by kernel_rfl) (tyTab_ok [(84,sortedS)]) (fns_cons sorted_ok fns_nil) ?_
 rintro w0 O0 ⟨f,root,u⟩ hc - ⟨hf,hr0,hr1⟩
 simp only [fromS,entEnv]
 have hfl:=hf.1
 repeat' (first | exact trivial | refine eS rfl ?_ | refine ev_out_inv ?_ | refine rX [0,1,2,4,5,6,7,8,9,10,11,19,40,60] hc ?_ ?_ | (refine rC (fun hcond=>?_) (fun hcond=>?_)<;>try (cases hcond;done)))
 refine ev_loop (ι:={i:Nat // i≤f.length}) (fun i=>⟨[(1,.p T3 root),(2,.bp 2 [] 0),(4,.bp 4 [] 0),(5,.bp 14 [] 0),(6,.p (.int .i64) (i.1:Int))],[(2,.box 25 true [.p T23 f]),(4,.box 25 true [.raw (.slice none 0 0)]),(14,.box 149 true [.p T25 f,.sr 10 T3 0 i.1,.raw (.slice none 0 0)]),(10,.arr 3 T3 (List.replicate i.1 (-1)))]⟩) (fun i=>f.length - i.1) ⟨0,by omega⟩ (ent_match [(2,.nm 2),(4,.nm 4),(14,.nm 14),(10,.nil)] rfl rfl ?_ ?_) (fun i=>?_)
 ·first | exact eN | refine eM ?_
  rfl
 ·first | exact eN | refine eM ?_
 ·obtain ⟨i,hi⟩:=i
  repeat' (first | exact trivial | refine eS rfl ?_ | refine ev_out_inv ?_ | refine rX [0,1,2,4,5,6,7,8,9,10,11,19,40,60] hc ?_ ?_ | (refine rC (fun hcond=>?_) (fun hcond=>?_)<;>try (cases hcond;done)))
  ·simp only [maxN];omega
  ·exact eV
  ·have hi:i < List.length f:=by exact eV
   refine ⟨⟨i + 1,by omega⟩,by simp only;omega,ent_match [(2,.nm 2),(4,.nm 4),(14,.nm 14),(10,.nm 10)] rfl rfl ?_ ?_⟩
   ·first | exact eN | refine eM ?_
    rw [List.replicate_succ']
    simp
   ·first | exact eN | refine eM ?_
  ·have hif:i=List.length f:=by exact eV
   subst hif
   have hvo:=trav_ok hf hr0 hr1
   refine cP 2 hc ?_ ?_
   ·trivial
   ·refine rM hc (visit_ok f hf (List.length f) (List.replicate (List.length f) (-1),[]) root (tr0 f) hr0 hr1 (rep_neg hr0 hr1) (by rw [negC_rep];exact Nat.le_refl _)) [(1,.nm 14),(2,.nm 10),(3,.nil)] [10] ?_ ?_ ?_
    ·first | exact eN | refine eM ?_
    ·simp only [wObjs]
     first | exact eN | refine eM ?_
     simp
    ·rintro _ _ ⟨rfl,rfl⟩
     refine ⟨[(14,.nm 1),(101,.nm 2),(102,.nm 3)],.raw (.tuple #[]),[(14,.box 149 true [.p T25 f,.sr 101 T3 0 (travF f root).1.length,.sr 102 T3 0 (travF f root).2.length]),(101,.arr 3 T3 (travF f root).1),(102,.arr 3 T3 (travF f root).2)],rfl,rfl,?_,?_,rfl,rfl,evL_end ?_⟩
     ·simp only [wObjs,travF]
      first | exact eN | refine eM ?_
     ·first | exact eN | refine eM ?_
     ·have hfrom:fromF f root=(travF f root).2.map (nodeF f (travF f root).1):=rfl
      rw [hfrom]
      generalize travF f root=s at hvo
      obtain ⟨num,ord⟩:=s
      obtain ⟨⟨hn1,hn2⟩,hord⟩:=hvo
      simp only at hn1 hn2
      have hord:∀ n∈ord,0≤n∧n < (List.length f:Int):=hord
      repeat' (first | exact trivial | refine eS rfl ?_ | refine ev_out_inv ?_ | refine rX [0,1,2,4,5,6,7,8,9,10,11,19,40,60] hc ?_ ?_ | (refine rC (fun hcond=>?_) (fun hcond=>?_)<;>try (cases hcond;done)))
      refine ev_loop (ι:={i:Nat // i≤ord.length}) (fun i=>⟨[(2,.bp 2 [] 0),(4,.bp 4 [] 0),(5,.bp 14 [] 0),(7,.bp 7 [] 0),(8,.p (.int .i64) (i.1:Int))],[(2,.box 25 true [.p T23 f]),(4,.box 25 true [.raw (.slice none 0 0)]),(14,.box 149 true [.p T25 f,.sr 101 T3 0 num.length,.sr 102 T3 0 ord.length]),(101,.arr 3 T3 num),(102,.arr 3 T3 ord),(7,.box 25 true [.sr 200 T62 0 i.1]),(200,.arr 62 T62 ((ord.take i.1).map (nodeF f num)))]⟩) (fun i=>ord.length - i.1) ⟨0,by omega⟩ (ent_match [(2,.nm 2),(4,.nm 4),(14,.nm 14),(101,.nm 101),(102,.nm 102),(7,.nm 7),(200,.nil)] rfl rfl ?_ ?_) (fun i=>?_)
      ·first | exact eN | refine eM ?_
      ·first | exact eN | refine eM ?_
      ·obtain ⟨i,hi⟩:=i
       repeat' (first | exact trivial | refine eS rfl ?_ | refine ev_out_inv ?_ | refine rX [0,1,2,4,5,6,7,8,9,10,11,19,40,60] hc ?_ ?_ | (refine rC (fun hcond=>?_) (fun hcond=>?_)<;>try (cases hcond;done)))
       ·have hi:i < ord.length:=by exact eV
        exact ⟨by exact eV,hord _ (mem_of_take_succ ord 0 hi)⟩
       ·exact Nat.le_trans (arcs_len hf _) (by omega)
       ·have hi:i < ord.length:=by exact eV
        have harcs:=fun a (ha:a∈sortedF (f.getD (Int.toNat (ord.getD i 0)) (0,[])).2)=>arcs_of hf ha
        have hnode:nodeF f num (ord.getD i 0)=((f.getD (Int.toNat (ord.getD i 0)) (0,[])).1,(sortedF (f.getD (Int.toNat (ord.getD i 0)) (0,[])).2).map (renA num)):=rfl
        have hxl:=arcs_len hf (ord.getD i 0)
        generalize List.getD f (Int.toNat (ord.getD i 0)) (0,[])=x at *
        obtain ⟨xt,xa⟩:=x
        simp only at harcs hnode hxl
        have hLl:=sortedF_len xa
        generalize sortedF xa=L at *
        refine ev_loop (ι:={k:Nat // k≤L.length}) (fun k=>⟨[(2,.bp 2 [] 0),(4,.bp 4 [] 0),(5,.bp 14 [] 0),(7,.bp 7 [] 0),(8,.p (.int .i64) (i:Int)),(9,.bp 9 [] 0),(10,.sr 56 T78 0 L.length),(11,.p (.int .i64) (k.1:Int))],[(56,.arr 78 T78 ((L.take k.1).map (renA num)++L.drop k.1)),(9,.box 62 true [.p T3 xt,.p T60 xa]),(2,.box 25 true [.p T23 f]),(4,.box 25 true [.raw (.slice none 0 0)]),(14,.box 149 true [.p T25 f,.sr 101 T3 0 num.length,.sr 102 T3 0 ord.length]),(101,.arr 3 T3 num),(102,.arr 3 T3 ord),(7,.box 25 true [.sr 200 T62 0 i]),(200,.arr 62 T62 ((ord.take i).map (nodeF f num)))]⟩) (fun k=>L.length - k.1) ⟨0,by omega⟩ (ent_match [(2,.nm 2),(4,.nm 4),(14,.nm 14),(101,.nm 101),(102,.nm 102),(7,.nm 7),(200,.nm 200),(9,.nm 9),(56,.nm 56)] rfl rfl ?_ ?_) (fun k=>?_)
        ·first | exact eN | refine eM ?_
        ·first | exact eN | refine eM ?_
        ·obtain ⟨k,hk⟩:=k
         repeat' (first | exact trivial | refine eS rfl ?_ | refine ev_out_inv ?_ | refine rX [0,1,2,4,5,6,7,8,9,10,11,19,40,60] hc ?_ ?_ | (refine rC (fun hcond=>?_) (fun hcond=>?_)<;>try (cases hcond;done)))
         ·have hkL:k < L.length:=by exact eV
          have e:=(map_part (renA num) (fun b=>b) L (0,0) hkL (renA num)).2
          rw [e]
          have:=harcs _ (mem_of_take_succ L (0,0) hkL)
          rw [hn1]
          exact ⟨by exact eV,this,by exact eV⟩
         ·exact eV
         ·have hkL:k < L.length:=by exact eV
          have e:=map_part (renA num) (fun b=>b) L (0,0) hkL (renA num)
          refine ⟨⟨k + 1,by omega⟩,by simp only;omega,ent_match [(2,.nm 2),(4,.nm 4),(14,.nm 14),(101,.nm 101),(102,.nm 102),(7,.nm 7),(200,.nm 200),(9,.nm 9),(56,.nm 56)] rfl rfl ?_ ?_⟩
          ·first | exact eN | refine eM ?_
           rw [e.2]
           exact e.1
          ·first | exact eN | refine eM ?_
         ·simp only [maxN];have:=hn2;omega
         ·exact eV
         ·have hkL:L.take k=L:=List.take_of_length_le (by exact eV)
          have hdL:L.drop k=[]:=List.drop_eq_nil_of_le (by exact eV)
          refine ⟨⟨i + 1,by omega⟩,by simp only;omega,ent_match [(2,.nm 2),(4,.nm 4),(14,.nm 14),(101,.nm 101),(102,.nm 102),(7,.nm 7),(200,.nm 200)] rfl rfl ?_ ?_⟩
          ·first | exact eN | refine eM ?_
           rw [hkL,hdL,List.append_nil,take_snoc ord 0 hi,List.map_append,List.map_cons,List.map_nil,hnode]
           have t1:List.take i ((ord.take i).map (nodeF f num))=(ord.take i).map (nodeF f num):=List.take_of_length_le (by rw [List.length_map,List.length_take];omega)
           have t2:List.take L.length (L.map (renA num))=L.map (renA num):=List.take_of_length_le (by rw [List.length_map];omega)
           rw [t1,t2]
          ·first | exact eN | refine eM ?_
       ·have hk:ord.take i=ord:=List.take_of_length_le (by exact eV)
        rw [hk]
        refine ev_fin hc [.cell 4 25] rfl (.inl rfl) (by simp) (by first | exact eR | refine eRM ?_;exact List.take_of_length_le (by rw [List.length_map];exact eV))
end
/- Functions of grammarlabref07: Canon, Sub; grammarlabref15: in, arc, canon. -/
section
attribute [local go_sem] formS fromS
theorem arcsG_zero {n:Int}:∀ {l seen:List (Int×Int)},arcsG n seen l=0→∀ a∈l,0≤a.1∧0≤a.2∧a.2 < n
 | [],_,_,a,ha=>by cases ha
 | x :: l,seen,h,a,ha=>by
  simp only [arcsG] at h
  split at h
  ·cases h
  ·split at h
   ·cases h
   ·rename_i h1 _
    rcases List.mem_cons.1 ha with rfl | ha
    ·omega
    ·exact arcsG_zero h a ha
theorem formG_zero {m:Int}:∀ {f:List (Int×List (Int×Int))},formG m f=0→∀ x∈f,0≤x.1∧∀ a∈x.2,0≤a.1∧0≤a.2∧a.2 < m
 | [],_,x,hx=>by cases hx
 | y :: f,h,x,hx=>by
  simp only [formG] at h
  split at h
  ·cases h
  ·split at h
   ·rename_i h1 h2;exact absurd h h2
   ·rename_i h1 h2
    have h2:arcsF y.2 m=0:=Classical.byContradiction h2
    rcases List.mem_cons.1 hx with rfl | hx
    ·exact ⟨by omega,arcsG_zero h2⟩
    ·exact formG_zero h x hx
def SmallA (f:List (Int×List (Int×Int))):Prop:=∀ x∈f,x.2.length≤100000
theorem formF_good {f:List (Int×List (Int×Int))} (h:formF f=0) (hs:SmallA f):GoodF f∧0 < f.length:=by
 unfold formF at h
 split at h
 ·cases h
 ·split at h
  ·cases h
  ·refine ⟨⟨by omega,fun x hx=>⟨hs x hx,fun a ha=>?_⟩⟩,by omega⟩
   have:=(formG_zero h x hx).2 a ha
   exact ⟨this.2.1,this.2.2⟩
def canonF (f:List GNode):List GNode×Int:=if formF f=0 then (fromF f 0,0) else ([],formF f)
def canonS:Spec:={ ins:=[T25],pre:=fun (f,_)=>SmallA f,out:=fun (f,_)=>[.p T25 (canonF f).1,.p T52 (canonF f).2] }
theorem canon_ok:FnOk Try.prog 38 canonS:=by
 refine fn_ok Try.func38 (by kernel_rfl) rfl Try.ntmps38 (by decide) (by kernel_rfl) (tyTab_ok [(58,formS),(59,fromS)]) (fns_cons form_ok (fns_cons from_ok fns_nil)) ?_
 rintro w0 O0 ⟨f,u⟩ hc - hs
 simp only [canonS,entEnv]
 repeat' (first | exact trivial | refine eS rfl ?_ | refine ev_out_inv ?_ | refine rX [0,1,2,3,4,8] hc ?_ ?_ | (refine rC (fun hcond=>?_) (fun hcond=>?_)<;>try (cases hcond;done)))
 ·have h:¬ formF f=0:=by simpa using hcond
  have e:canonF f=([],formF f):=if_neg h
  exact ev_fin hc [.cell 2 25,.tmp 3] rfl (.inl rfl) (by simp) (by rw [e];first | exact eR | refine eRM ?_)
 ·have h:formF f=0:=by simpa using hcond
  have:=formF_good h hs
  exact ⟨this.1,by exact eV⟩
 ·have h:formF f=0:=by simpa using hcond
  have e:canonF f=(fromF f 0,0):=if_pos h
  exact ev_fin hc [.cell 2 25,.tmp 3] rfl (.inl rfl) (by simp) (by rw [e];first | exact eR | refine eRM ?_)
end
/- Functions of grammarlabref15: canon. -/
section
def rcanonF (f:List GNode):List GNode:=if f.length=0 then [] else fromF f 0
def canon15S:Spec:={ ins:=[T25],pre:=fun (f,_)=>GoodF f,out:=fun (f,_)=>[.p T25 (rcanonF f)] }
attribute [local go_sem] canon15S
attribute [local go_sem] fromS
theorem canon15_ok:FnOk Try.prog 44 canon15S:=by
 refine fn_ok Try.func44 (by kernel_rfl) rfl Try.ntmps44 (by decide) (by kernel_rfl) (tyTab_ok [(59,fromS)]) (fns_cons from_ok fns_nil) ?_
 rintro w0 O0 ⟨f,u⟩ hc - hs
 simp only [canon15S,entEnv]
 repeat' (first | exact trivial | refine eS rfl ?_ | refine ev_out_inv ?_ | refine rX [0,1,2,6] hc ?_ ?_ | (refine rC (fun hcond=>?_) (fun hcond=>?_)<;>try (cases hcond;done)))
 ·have h:rcanonF f=[]:=if_pos (by exact eV)
  exact ev_fin hc [.cell 2 25] rfl (.inl rfl) (by simp) (by rw [h];first | exact eR | refine eRM ?_)
 ·exact ⟨hs,by exact eV⟩
 ·have h:rcanonF f=fromF f 0:=if_neg (by exact eV)
  exact ev_fin hc [.cell 2 25] rfl (.inl rfl) (by simp) (by rw [h];first | exact eR | refine eRM ?_)
end
/- Functions of grammarlabref15: Keep. -/
section
attribute [local go_sem] arcS canon15S
attribute [local go_sem] trnEN ninN ne_eq not_false_eq_true
def kRow (f g:List GNode) (n x:Int):List GNode:=if arcF (g.getD n.toNat (0,[])).2 x < 0 then g.set n.toNat ((g.getD n.toNat (0,[])).1,(g.getD n.toNat (0,[])).2++[(f.getD n.toNat (0,[])).2.getD (arcF (f.getD n.toNat (0,[])).2 x).toNat (0,0)]) else g
def kPath (f:List GNode):List Int→Int→List GNode→List GNode
 | [],_,g=>g
 | x :: r,n,g=>if arcF (f.getD n.toNat (0,[])).2 x < 0 then g else kPath f r ((f.getD n.toNat (0,[])).2.getD (arcF (f.getD n.toNat (0,[])).2 x).toNat (0,0)).2 (kRow f g n x)
def bareN (f:List GNode):List GNode:=f.map fun x=>(x.1,[])
def kRows (f:List GNode) (ps:List (List Int)):List GNode:=ps.foldl (fun g p=>kPath f p 0 g) (bareN f)
def keepRF (f:List GNode) (ps:List (List Int)):List GNode:=rcanonF (kRows f ps)
theorem arcG_rng (l:List (Int×Int)) (x:Int):∀ m,m≤l.length→arcG l x m=-1∨(0≤arcG l x m∧arcG l x m < (l.length:Int))
 | 0,_=>.inl rfl
 | m + 1,h=>by
  unfold arcG
  split
  ·right;omega
  ·exact arcG_rng l x m (by omega)
theorem arcF_rng (l:List (Int×Int)) (x:Int):arcF l x=-1∨(0≤arcF l x∧arcF l x < (l.length:Int)):=arcG_rng l x _ (Nat.le_refl _)
def KOk (f:List GNode) (m:Nat) (g:List GNode):Prop:=g.length=f.length∧∀ k,(g.getD k (0,[])).2.length≤m∧∀ a∈(g.getD k (0,[])).2,0≤a.2∧a.2 < (f.length:Int)
theorem getD_setK (l:List GNode) (v:GNode) (i j:Nat) (hi:i < l.length):(l.set i v).getD j (0,[])=if j=i then v else l.getD j (0,[]):=by
 simp only [List.getD_eq_getElem?_getD,List.getElem?_set]
 by_cases e:i=j
 ·subst e;simp [hi]
 ·rw [if_neg e,if_neg (fun h=>e h.symm)]
theorem kRow_ok {f g:List GNode} (hf:GoodF f) {m:Nat} (hg:KOk f m g) {n:Int} (n0:0≤n) (n1:n < (f.length:Int)) {x:Int} (hx:¬ arcF (f.getD n.toNat (0,[])).2 x < 0):KOk f (m + 1) (kRow f g n x):=by
 have hgl:=hg.1
 unfold kRow
 split
 ·refine ⟨by rw [List.length_set];exact hgl,fun k=>?_⟩
  rw [getD_setK _ _ _ _ (by omega)]
  split
  ·have:=hg.2 n.toNat
   refine ⟨by simp only [List.length_append,List.length_singleton];omega,fun a ha=>?_⟩
   rcases List.mem_append.1 ha with ha | ha
   ·exact this.2 a ha
   ·have e:a=(f.getD n.toNat (0,[])).2.getD (arcF (f.getD n.toNat (0,[])).2 x).toNat (0,0):=by simpa using ha
    have hr:=arcF_rng (f.getD n.toNat (0,[])).2 x
    rw [e]
    exact (hf.2 _ (mem_of_take_succ f (0,[]) (by omega))).2 _ (mem_of_take_succ _ (0,0) (by omega))
  ·exact ⟨Nat.le_succ_of_le (hg.2 k).1,(hg.2 k).2⟩
 ·exact ⟨hgl,fun k=>⟨Nat.le_succ_of_le (hg.2 k).1,(hg.2 k).2⟩⟩
theorem bare_ok (f:List GNode):KOk f 0 (bareN f):=by
 refine ⟨by simp [bareN],fun k=>?_⟩
 unfold bareN
 rw [List.getD_eq_getElem?_getD,List.getElem?_map]
 cases f[k]?<;>simp
theorem kok_good {f g:List GNode} {m:Nat} (h:KOk f m g) (hf:f.length≤100000) (hm:m≤100000):GoodF g:=by
 refine ⟨by rw [h.1];exact hf,fun x hx=>?_⟩
 obtain ⟨k,hk,rfl⟩:=List.mem_iff_getElem.1 hx
 have:=h.2 k
 rw [List.getD_eq_getElem?_getD,List.getElem?_eq_getElem hk] at this
 refine ⟨Nat.le_trans this.1 hm,fun a ha=>?_⟩
 rw [h.1]
 exact this.2 a ha
theorem bare_take (f:List GNode) {i:Nat} (h:i < f.length):bareN (f.take (i + 1))=bareN (f.take i)++[((f.getD i (0,[])).1,[])]:=by
 rw [take_snoc f (0,[]) h]
 simp [bareN]
theorem bare_len (f:List GNode) (i:Nat) (h:i≤f.length):(bareN (f.take i)).length=i:=by simp [bareN];omega
theorem drop_getZ {l:List Int} {k:Nat} (h:k < l.length):l.drop k=l.getD k 0 :: l.drop (k + 1):=by
 rw [List.drop_eq_getElem_cons h,List.getD_eq_getElem?_getD,List.getElem?_eq_getElem h];rfl
def keepRS:Spec:={ ins:=[T25,T47],pre:=fun (f,ps,_)=>GoodF f∧0 < List.length f∧List.length ps≤100∧(∀ p∈(ps:List (List Int)),p.length≤100),out:=fun (f,ps,_)=>[.p T25 (keepRF f ps)] }
attribute [local go_sem] keepRS
theorem keepR_ok:FnOk Try.prog 21 keepRS:=by
 refine fn_ok Try.func21 (by kernel_rfl) rfl Try.ntmps21 (by decide) (by kernel_rfl) (tyTab_ok [(43,arcS),(44,canon15S)] [] [(27,78)]) (fns_cons arc_ok (fns_cons canon15_ok fns_nil)) ?_
 rintro w0 O0 ⟨f,ps,u⟩ hc - ⟨hf,h0,hl,hp⟩
 simp only [keepRS,entEnv]
 have hf1:=hf.1
 repeat' (first | exact trivial | refine eS rfl ?_ | refine ev_out_inv ?_ | refine rX [0,1,2,4,5,6,7,8,9,10,15,33,42,60,75] hc ?_ ?_ | (refine rC (fun hcond=>?_) (fun hcond=>?_)<;>try (cases hcond;done)))
 refine ev_loop (ι:={i:Nat // i≤List.length f}) (fun i=>⟨[(1,.p T47 ps),(2,.bp 2 [] 0),(4,.bp 4 [] 0),(5,.bp 5 [] 0),(6,.p (.int .i64) (i.1:Int))],[(2,.box 25 true [.p T23 f]),(4,.box 25 true [.raw (.slice none 0 0)]),(5,.box 25 true [.sr 28 T62 0 i.1]),(28,.nest 62 78 T3 T78 (bareN (f.take i.1)) none)]⟩) (fun i=>List.length f - i.1) ⟨0,by omega⟩ (ent_match [(2,.nm 2),(4,.nm 4),(5,.nm 5),(28,.nil)] rfl rfl ?_ ?_) (fun i=>?_)
 ·first | exact eN | refine eM ?_
  rfl
 ·first | exact eN | refine eM ?_
 ·obtain ⟨i,hi⟩:=i
  have hbl:=bare_len f i hi
  repeat' (first | exact trivial | refine eS rfl ?_ | refine ev_out_inv ?_ | refine rX [0,1,2,4,5,6,7,8,9,10,15,33,42,60,75] hc ?_ ?_ | (refine rC (fun hcond=>?_) (fun hcond=>?_)<;>try (cases hcond;done)))
  ·refine ⟨hcond,hbl.symm,?_⟩
   rw [hbl]
   simp only [maxN]
   dsimp only [Ty.den] at *
   omega
  ·exact eV
  ·have hil:i < List.length f:=by exact eV
   refine ⟨⟨i + 1,by omega⟩,by simp only;omega,ent_match [(2,.nm 2),(4,.nm 4),(5,.nm 5),(28,.nm 28)] rfl rfl ?_ ?_⟩
   ·simp only
    rw [bare_take f hil]
    first | exact eN | refine eM ?_
    rw [hbl]
   ·first | exact eN | refine eM ?_
  ·have hil:List.take i f=f:=List.take_of_length_le (by exact eV)
   have hie:i=List.length f:=by exact eV
   rw [hil,hie]
   have hkr:∀ i,kRows f (ps.take i)=(ps.take i).foldl (fun g p=>kPath f p 0 g) (bareN f):=fun _=>rfl
   refine ev_loop (ι:={s:Nat×List GNode // s.1≤List.length ps∧KOk f (s.1 * 100) s.2∧(ps.drop s.1).foldl (fun g p=>kPath f p 0 g) s.2=kRows f ps}) (fun s=>⟨[(1,.p T47 ps),(2,.bp 2 [] 0),(4,.bp 4 [] 0),(5,.bp 5 [] 0),(7,.p (.int .i64) (s.1.1:Int))],[(2,.box 25 true [.p T23 f]),(4,.box 25 true [.raw (.slice none 0 0)]),(5,.box 25 true [.sr 28 T62 0 (List.length f)]),(28,.nest 62 78 T3 T78 s.1.2 none)]⟩) (fun s=>List.length ps - s.1.1) ⟨(0,bareN f),by simp,bare_ok f,rfl⟩ (ent_match [(2,.nm 2),(4,.nm 4),(5,.nm 5),(28,.nm 28)] rfl rfl ?_ ?_) (fun s=>?_)
   ·first | exact eN | refine eM ?_
   ·first | exact eN | refine eM ?_
   ·obtain ⟨⟨i,g⟩,hi,hg,hgk⟩:=s
    simp only at hi hg hgk
    simp only
    repeat' (first | exact trivial | refine eS rfl ?_ | refine ev_out_inv ?_ | refine rX [0,1,2,4,5,6,7,8,9,10,15,33,42,60,75] hc ?_ ?_ | (refine rC (fun hcond=>?_) (fun hcond=>?_)<;>try (cases hcond;done)))
    ·have hip:i < List.length ps:=by exact eV
     have hpl:=hp _ (mem_of_take_succ (ps:List (List Int)) [] hip)
     have hdr:List.drop i ps=List.getD ps i [] :: List.drop (i + 1) ps:=by
      rw [List.drop_eq_getElem_cons hip,List.getD_eq_getElem?_getD,List.getElem?_eq_getElem hip];rfl
     rw [hdr,List.foldl_cons] at hgk
     refine ev_loop (ι:={s:Nat×Int×List GNode // s.1≤(List.getD ps i []).length∧(0≤s.2.1∧s.2.1 < (List.length f:Int))∧KOk f (i * 100 + s.1) s.2.2∧kPath f ((List.getD ps i []).drop s.1) s.2.1 s.2.2=kPath f (List.getD ps i []) 0 g}) (fun s=>⟨[(1,.p T47 ps),(2,.bp 2 [] 0),(4,.bp 4 [] 0),(5,.bp 5 [] 0),(7,.p (.int .i64) (i:Int)),(8,.p (.int .i64) s.1.2.1),(9,.p (.int .i64) (s.1.1:Int))],[(2,.box 25 true [.p T23 f]),(4,.box 25 true [.raw (.slice none 0 0)]),(5,.box 25 true [.sr 28 T62 0 (List.length f)]),(28,.nest 62 78 T3 T78 s.1.2.2 none)]⟩) (fun s=>(List.getD ps i []).length - s.1.1) ⟨(0,0,g),by simp,by simp only;omega,by simpa using hg,rfl⟩ (ent_match [(2,.nm 2),(4,.nm 4),(5,.nm 5),(28,.nm 28)] rfl rfl ?_ ?_) (fun s=>?_)
     ·first | exact eN | refine eM ?_
     ·first | exact eN | refine eM ?_
     ·obtain ⟨⟨k,n,g1⟩,hk,hn,hg1,hkp⟩:=s
      simp only at hk hn hg1 hkp
      simp only
      have hg1l:=hg1.1
      have hkd:=fun h:k < (List.getD ps i []).length=>drop_getZ h
      have hkn:k < (List.getD ps i []).length→kPath f ((List.getD ps i []).drop k) n g1=if arcF (f.getD n.toNat (0,[])).2 ((List.getD ps i []).getD k 0) < 0 then g1 else kPath f ((List.getD ps i []).drop (k + 1)) ((f.getD n.toNat (0,[])).2.getD (arcF (f.getD n.toNat (0,[])).2 ((List.getD ps i []).getD k 0)).toNat (0,0)).2 (kRow f g1 n ((List.getD ps i []).getD k 0)):=fun h=>by
       rw [hkd h];rfl
      have hr:=arcF_rng (f.getD n.toNat (0,[])).2 ((List.getD ps i []).getD k 0)
      have hro:=fun hx=>kRow_ok hf hg1 hn.1 hn.2 (x:=(List.getD ps i []).getD k 0) hx
      have hkr:kRow f g1 n ((List.getD ps i []).getD k 0)=if arcF (g1.getD n.toNat (0,[])).2 ((List.getD ps i []).getD k 0) < 0 then g1.set n.toNat ((g1.getD n.toNat (0,[])).1,(g1.getD n.toNat (0,[])).2++[(f.getD n.toNat (0,[])).2.getD (arcF (f.getD n.toNat (0,[])).2 ((List.getD ps i []).getD k 0)).toNat (0,0)]) else g1:=rfl
      generalize hx:(List.getD ps i []).getD k 0=x at *
      have hgi:=hg1.2 n.toNat
      repeat' (first | exact trivial | refine eS rfl ?_ | refine ev_out_inv ?_ | refine rX [0,1,2,4,5,6,7,8,9,10,15,33,42,60,75] hc ?_ ?_ | (refine rC (fun hcond=>?_) (fun hcond=>?_)<;>try (cases hcond;done)))
      all_goals try rw [hx] at hcond
      all_goals try rw [hx]
      ·assumption
      ·exact ⟨hn,by assumption,hcond⟩
      ·exact eV
      ·have hkl:k < (List.getD ps i []).length:=by exact eV
       rw [hkn hkl,if_pos hcond] at hkp
       refine ⟨⟨(i + 1,g1),by simp only;omega,?_,by simp only;rw [hkp];exact hgk⟩,by simp only;omega,ent_match [(2,.nm 2),(4,.nm 4),(5,.nm 5),(28,.nm 28)] rfl rfl ?_ ?_⟩
       ·refine ⟨hg1l,fun j=>⟨Nat.le_trans (hg1.2 j).1 (by simp only;omega),(hg1.2 j).2⟩⟩
       ·first | exact eN | refine eM ?_
       ·first | exact eN | refine eM ?_
      ·exact ⟨hn,by assumption,by assumption⟩
      ·have hkl:k < (List.getD ps i []).length:=by exact eV
       rw [if_pos hcond] at hkr
       have hxa:¬ arcF (f.getD n.toNat (0,[])).2 x < 0:=by
        rename_i h1
        rw [hx] at h1
        omega
       have hro:=hro hxa
       rw [hkn hkl,if_neg hxa] at hkp
       have hin:=(hf.2 _ (mem_of_take_succ (f:List GNode) (0,[]) (k:=n.toNat) (by exact eV))).2 _ (mem_of_take_succ (f.getD n.toNat (0,[])).2 (0,0) (k:=(arcF (f.getD n.toNat (0,[])).2 x).toNat) (by exact eV))
       refine ev_mix drawsAny hc 20 [([3,4,5,6,7,8,9,10,11,12,13,14,15,16,17,18],19)] [0,1,2] (by kernel_rfl) (mxA ?_ ?_)
       ·exact ⟨hn,hn,by exact eV,by exact eV⟩
       ·refine mxN hc 28 ?_ ?_
        ·have hgi:=hgi.1
         simp only [maxN]
         dsimp only [Ty.den] at *
         omega
        ·refine mxE [0,1,2,4,5,6,7,8,9,10,15,33,42,60,75] hc ?_ ?_ ?_
         ·trivial
         ·exact hn
         ·repeat' (first | exact trivial | refine eS rfl ?_ | refine ev_out_inv ?_ | refine rX [0,1,2,4,5,6,7,8,9,10,15,33,42,60,75] hc ?_ ?_ | (refine rC (fun hcond=>?_) (fun hcond=>?_)<;>try (cases hcond;done)))
          ·exact ⟨hn,by exact eV,by exact eV⟩
          ·exact eV
          ·rw [← hkr]
           refine ⟨⟨(k + 1,_,kRow f g1 n x),by simp only;omega,hin,hro,hkp⟩,by simp only;omega,ent_match [(2,.nm 2),(4,.nm 4),(5,.nm 5),(28,.nm 28)] rfl rfl ?_ ?_⟩
           ·first | exact eN | refine eM ?_
           ·first | exact eN | refine eM ?_
      ·have h5:=hr.resolve_left (by rename_i h1;rw [hx] at h1;omega)
       exact ⟨hn,h5.1,h5.2⟩
      ·exact eV
      ·have hkl:k < (List.getD ps i []).length:=by exact eV
       rw [if_neg (by omega)] at hkr
       have hxa:¬ arcF (f.getD n.toNat (0,[])).2 x < 0:=by
        rename_i h1
        rw [hx] at h1
        omega
       have hro:=hro hxa
       rw [hkn hkl,if_neg hxa] at hkp
       have hin:=(hf.2 _ (mem_of_take_succ (f:List GNode) (0,[]) (k:=n.toNat) (by exact eV))).2 _ (mem_of_take_succ (f.getD n.toNat (0,[])).2 (0,0) (k:=(arcF (f.getD n.toNat (0,[])).2 x).toNat) (by exact eV))
       rw [hkr] at hkp hro
       refine ⟨⟨(k + 1,_,g1),by simp only;omega,hin,hro,hkp⟩,by simp only;omega,ent_match [(2,.nm 2),(4,.nm 4),(5,.nm 5),(28,.nm 28)] rfl rfl ?_ ?_⟩
       ·first | exact eN | refine eM ?_
       ·first | exact eN | refine eM ?_
      ·exact eV
      ·have hkl:(List.getD ps i []).drop k=[]:=List.drop_eq_nil_of_le (by exact eV)
       rw [hkl] at hkp
       have hkp:g1=kPath f (List.getD ps i []) 0 g:=hkp
       refine ⟨⟨(i + 1,g1),by simp only;omega,?_,by simp only;rw [hkp];exact hgk⟩,by simp only;omega,ent_match [(2,.nm 2),(4,.nm 4),(5,.nm 5),(28,.nm 28)] rfl rfl ?_ ?_⟩
       ·refine ⟨hg1l,fun j=>⟨Nat.le_trans (hg1.2 j).1 (by simp only;omega),(hg1.2 j).2⟩⟩
       ·first | exact eN | refine eM ?_
       ·first | exact eN | refine eM ?_
    ·have hip:List.drop i ps=[]:=List.drop_eq_nil_of_le (by exact eV)
     rw [hip] at hgk
     have hgk:g=kRows f ps:=hgk
     have hgd:=kok_good hg hf1 (by omega)
     have hgl:=hg.1
     rw [hgk] at hgd hgl ⊢
     have htk:List.take (List.length f) (kRows f ps)=kRows f ps:=List.take_of_length_le (by rw [hgl];exact Nat.le_refl _)
     have hfin:keepRF f ps=rcanonF (kRows f ps):=rfl
     refine frzE [28] ?_
     repeat' (first | exact trivial | refine eS rfl ?_ | refine ev_out_inv ?_ | refine rX [0,1,2,4,5,6,7,8,9,10,15,33,42,60,75] hc ?_ ?_ | (refine rC (fun hcond=>?_) (fun hcond=>?_)<;>try (cases hcond;done)))
     ·rw [htk];exact hgd
     ·rw [htk,← hfin]
      exact ev_fin hc [.cell 4 25] rfl (.inl rfl) (by simp) (by first | exact eR | refine eRM ?_)
end
/- Functions of grammarlabref07. -/
section
abbrev NodeL:=Int×List (Int×Int)
def lightF (f:List NodeL):Bool:=decide (f.length≤12) && f.all fun n=>decide (n.2.length≤12)
def lightS:Spec:={ ins:=[T25],pre:=fun _=>True,out:=fun (f,_)=>[.p .bool (lightF f)] }
theorem light_ok:FnOk Try.prog 24 lightS:=by
 refine fn_ok Try.func24 (by kernel_rfl) rfl Try.ntmps24 (by decide) (by kernel_rfl) (tyTab_ok []) (fun f sp h=>by simp [lk] at h) ?_
 rintro w0 O0 ⟨l,u⟩ hc hok hpre
 simp only [lightS,entEnv]
 repeat' (first | exact trivial | refine eS rfl ?_ | refine ev_out_inv ?_ | refine rX [0,1,2,3,7,12,22] hc ?_ ?_ | (refine rC (fun hcond=>?_) (fun hcond=>?_)<;>try (cases hcond;done)))
 ·have h1:lightF l=false:=by
   have h:¬ (List.length l≤12):=by exact eV
   unfold lightF
   rw [decide_eq_false h];rfl
  exact ev_fin hc [.tmp 2] rfl (.inl rfl) (by simp) (by rw [h1];first | exact eR | refine eRM ?_)
 ·refine ev_loop (ι:={k:Nat // k≤l.length∧(l.take k).all (fun n=>decide (n.2.length≤12))=true}) (fun k=>⟨[(0,.p T25 l),(1,.bp 1 [] 0),(3,.p (.int .i64) (k.1:Int))],[(1,.box 25 true [.p T23 l])]⟩) (fun k=>l.length - k.1) ⟨0,by simp⟩ (ent_match [(1,.nm 1)] rfl rfl ?_ ?_) (fun k=>?_)
  ·first | exact eN | refine eM ?_
  ·first | exact eN | refine eM ?_
  ·obtain ⟨k,hk,hall⟩:=k
   repeat' (first | exact trivial | refine eS rfl ?_ | refine ev_out_inv ?_ | refine rX [0,1,2,3,7,12,22] hc ?_ ?_ | (refine rC (fun hcond=>?_) (fun hcond=>?_)<;>try (cases hcond;done)))
   ·exact eV
   ·have h1:lightF l=false:=by
     have hk:k < l.length:=by exact eV
     have h:=mem_of_take_succ l (0,[]) hk
     unfold lightF
     rw [Bool.and_eq_false_iff]
     right
     rw [List.all_eq_false]
     exact ⟨_,h,by simp only [decide_eq_true_eq];exact eV⟩
    exact ev_fin hc [.tmp 2] rfl (.inl rfl) (by simp) (by rw [h1];first | exact eR | refine eRM ?_)
   ·exact eV
   ·have hk:k < l.length:=by exact eV
    refine ⟨⟨k + 1,by exact eV,?_⟩,by simp only;exact eV,ent_match [(1,.nm 1)] rfl rfl ?_ ?_⟩
    ·have h1:=take_snoc l (0,[]) hk
     have h2:((l.take (k + 1)).all fun n=>decide (n.2.length≤12))=_:=congrArg (fun x=>List.all x fun n=>decide (n.2.length≤12)) h1
     rw [h2,List.all_append,hall]
     simp only [List.all_cons,List.all_nil,Bool.and_true,Bool.true_and,decide_eq_true_eq]
     exact eV
    ·first | exact eN | refine eM ?_
    ·first | exact eN | refine eM ?_
   ·have h1:lightF l=true:=by
     have hk:l.take k=l:=List.take_of_length_le (by exact eV)
     rw [hk] at hall
     unfold lightF
     rw [hall,decide_eq_true (by exact eV)];rfl
    exact ev_fin hc [.tmp 2] rfl (.inl rfl) (by simp) (by rw [h1];first | exact eR | refine eRM ?_)
end
/- Functions of grammarlabref15: Canonical. -/
section
attribute [local go_sem] lightS canonS equalS
def ftB (a:Int×Int):Bool:=decide (a.1 < 64)
def ndB (x:GNode):Bool:=decide (x.1 < 256) && x.2.all ftB
def canonicalB (f:List GNode):Bool:=lightF f && f.all ndB && ((canonF f).2 == 0 && (compareF (canonF f).1 f == 0))
def canonical15S:Spec:={ ins:=[T25],pre:=fun _=>True,out:=fun (f,_)=>[.p .bool (canonicalB f)] }
theorem light_small {f:List GNode} (h:lightF f=true):f.length≤12∧∀ x∈f,x.2.length≤12:=by
 unfold lightF at h
 simp only [Bool.and_eq_true,decide_eq_true_eq,List.all_eq_true] at h
 exact h
theorem small_from {f:List GNode} (hf:GoodF f) {n:Int} (h0:0≤n) (h1:n < f.length):SmallF (fromF f n):=by
 obtain ⟨⟨g1,g2⟩,_⟩:=trav_ok hf h0 h1
 have hfl:=hf.1
 refine ⟨?_,fun x hx=>?_⟩
 ·unfold fromF
  rw [List.length_map]
  omega
 ·obtain ⟨m,_,rfl⟩:=List.mem_map.1 hx
  unfold nodeF
  simp only [List.length_map,sortedF_len]
  exact arcs_len hf m
theorem small_canon {f:List GNode} (hs:SmallA f):SmallF (canonF f).1:=by
 unfold canonF
 split
 ·rename_i h
  obtain ⟨h1,h2⟩:=formF_good h hs
  exact small_from h1 (by omega) (by omega)
 ·exact ⟨by simp,fun x hx=>by cases hx⟩
theorem canonical15_ok:FnOk Try.prog 17 canonical15S:=by
 refine fn_ok Try.func17 (by kernel_rfl) rfl Try.ntmps17 (by decide) (by kernel_rfl) (tyTab_ok [(24,lightS),(38,canonS),(13,equalS)]) (fns_cons light_ok (fns_cons canon_ok (fns_cons equal_ok fns_nil))) ?_
 rintro w0 O0 ⟨f,u⟩ hc - -
 simp only [canonical15S,entEnv]
 repeat' (first | exact trivial | refine eS rfl ?_ | refine ev_out_inv ?_ | refine rX [0,1,2,3,4,5,6,9,14,23,32,45] hc ?_ ?_ | (refine rC (fun hcond=>?_) (fun hcond=>?_)<;>try (cases hcond;done)))
 ·have e:canonicalB f=false:=by unfold canonicalB;rw [hcond];rfl
  exact ev_fin hc [.tmp 2] rfl (.inl rfl) (by simp) (by rw [e];first | exact eR | refine eRM ?_)
 ·have hlight:=hcond
  obtain ⟨hl,hla⟩:=light_small hlight
  refine ev_loop (ι:={i:Nat // i≤f.length∧(f.take i).all ndB=true}) (fun i=>⟨[(1,.bp 1 [] 0),(3,.p (.int .i64) (i.1:Int))],[(1,.box 25 true [.p T23 f])]⟩) (fun i=>f.length - i.1) ⟨0,by simp⟩ (ent_match [(1,.nm 1)] rfl rfl ?_ ?_) (fun i=>?_)
  ·first | exact eN | refine eM ?_
  ·first | exact eN | refine eM ?_
  ·obtain ⟨i,hi,hall⟩:=i
   repeat' (first | exact trivial | refine eS rfl ?_ | refine ev_out_inv ?_ | refine rX [0,1,2,3,4,5,6,9,14,23,32,45] hc ?_ ?_ | (refine rC (fun hcond=>?_) (fun hcond=>?_)<;>try (cases hcond;done)))
   ·exact eV
   ·have hif:i < f.length:=by exact eV
    have e:canonicalB f=false:=by
     have hm:=mem_of_take_succ f (0,[]) hif
     have hz:ndB (f.getD i (0,[]))=false:=by
      unfold ndB
      rw [decide_eq_false (by omega)]
      rfl
     unfold canonicalB
     rw [List.all_eq_false.2 ⟨_,hm,by rw [hz];simp⟩]
     simp
    exact ev_fin hc [.tmp 2] rfl (.inl rfl) (by simp) (by rw [e];first | exact eR | refine eRM ?_)
   ·have hif:i < f.length:=by exact eV
    have hx:=hla _ (mem_of_take_succ f (0,[]) hif)
    have hm:=mem_of_take_succ f (0,[]) hif
    have hsn:(f.take (i + 1)).all ndB=((f.take i).all ndB && ndB (f.getD i (0,[]))):=by
     rw [take_snoc f (0,[]) hif,List.all_append];simp
    have hnd:ndB (f.getD i (0,[]))=(f.getD i (0,[])).2.all ftB:=by
     unfold ndB
     rw [decide_eq_true (by omega)]
     rfl
    refine ev_loop (ι:={k:Nat // k≤(f.getD i (0,[])).2.length∧((f.getD i (0,[])).2.take k).all ftB=true}) (fun k=>⟨[(1,.bp 1 [] 0),(3,.p (.int .i64) (i:Int)),(4,.p (.int .i64) (k.1:Int))],[(1,.box 25 true [.p T23 f])]⟩) (fun k=>(f.getD i (0,[])).2.length - k.1) ⟨0,by simp⟩ (ent_match [(1,.nm 1)] rfl rfl ?_ ?_) (fun k=>?_)
    ·first | exact eN | refine eM ?_
    ·first | exact eN | refine eM ?_
    ·obtain ⟨k,hk,hall2⟩:=k
     have hsn2:=fun (h:k < (f.getD i (0,[])).2.length)=>take_snoc (f.getD i (0,[])).2 (0,0) h
     repeat' (first | exact trivial | refine eS rfl ?_ | refine ev_out_inv ?_ | refine rX [0,1,2,3,4,5,6,9,14,23,32,45] hc ?_ ?_ | (refine rC (fun hcond=>?_) (fun hcond=>?_)<;>try (cases hcond;done)))
     ·exact eV
     ·exact eV
     ·have hkL:k < (f.getD i (0,[])).2.length:=by exact eV
      have e:canonicalB f=false:=by
       have hm2:=mem_of_take_succ (f.getD i (0,[])).2 (0,0) hkL
       unfold canonicalB
       rw [List.all_eq_false.2 ⟨_,hm,by rw [hnd,List.all_eq_false.2 ⟨_,hm2,by unfold ftB;rw [decide_eq_false (by omega)];simp⟩];simp⟩]
       simp
      exact ev_fin hc [.tmp 2] rfl (.inl rfl) (by simp) (by rw [e];first | exact eR | refine eRM ?_)
     ·exact eV
     ·have hkL:k < (f.getD i (0,[])).2.length:=by exact eV
      refine ⟨⟨k + 1,by omega,?_⟩,by simp only;exact eV,ent_match [(1,.nm 1)] rfl rfl ?_ ?_⟩
      ·rw [hsn2 hkL,List.all_append,hall2]
       simp only [List.all_cons,List.all_nil,Bool.and_true,Bool.true_and]
       unfold ftB
       exact decide_eq_true hcond
      ·first | exact eN | refine eM ?_
      ·first | exact eN | refine eM ?_
     ·exact eV
     ·have hkL:(f.getD i (0,[])).2.take k=(f.getD i (0,[])).2:=List.take_of_length_le (by exact eV)
      rw [hkL] at hall2
      refine ⟨⟨i + 1,by omega,?_⟩,by simp only;omega,ent_match [(1,.nm 1)] rfl rfl ?_ ?_⟩
      ·rw [hsn,hall,hnd,hall2];rfl
      ·first | exact eN | refine eM ?_
      ·first | exact eN | refine eM ?_
   ·intro x hx
    exact Nat.le_trans (hla x hx) (by omega)
   ·intro _
    have hsa:SmallA f:=fun x hx=>Nat.le_trans (hla x hx) (by omega)
    exact ⟨small_canon hsa,by omega,fun x hx=>Nat.le_trans (hla x hx) (by omega)⟩
   ·have hif:f.take i=f:=List.take_of_length_le (by exact eV)
    rw [hif] at hall
    have e:canonicalB f=((canonF f).2 == 0 && (compareF (canonF f).1 f == 0)):=by
     unfold canonicalB
     rw [hlight,hall]
     rfl
    exact ev_fin hc [.tmp 2] rfl (.inl rfl) (by simp) (by rw [e];first | exact eR | refine eRM ?_)
end
/- Functions of Go's library under graph.canonical: isNaN, Compare, byFeature, the sort of what is sorted. -/
section
def isNaNS:Spec:={ ins:=[T3],pre:=fun _=>True,out:=fun _=>[.p .bool false] }
attribute [local go_sem] isNaNS
def cmpI (a b:Int):Int:=if a < b then -1 else if b < a then 1 else 0
def compareIntS:Spec:={ ins:=[T3,T3],pre:=fun _=>True,out:=fun (a,b,_)=>[.p T3 (cmpI a b)] }
attribute [local go_sem] compareIntS
def byFeatureS:Spec:={ ins:=[T78,T78],pre:=fun _=>True,out:=fun (a,b,_)=>[.p T3 (cmpI (Prod.fst a) (Prod.fst b))] }
attribute [local go_sem] byFeatureS
theorem isNaN_ok:FnOk Try.prog 131 isNaNS:=by
 refine fn_ok Try.func131 (by kernel_rfl) rfl Try.ntmps131 (by decide) (by kernel_rfl) (tyTab_ok []) fns_nil ?_
 rintro w0 O0 ⟨x,u⟩ hc - -
 simp only [isNaNS,entEnv]
 repeat' (first | exact trivial | refine eS rfl ?_ | refine ev_out_inv ?_ | refine rX [0,2] hc ?_ ?_ | (refine rC (fun hcond=>?_) (fun hcond=>?_)<;>try (cases hcond;done)))
 exact ev_fin hc [.tmp 2] rfl (.inl rfl) (by simp) (by first | exact eR | refine eRM ?_)
theorem compareInt_ok:FnOk Try.prog 126 compareIntS:=by
 refine fn_ok Try.func126 (by kernel_rfl) rfl Try.ntmps126 (by decide) (by kernel_rfl) (tyTab_ok [(131,isNaNS)]) (fns_cons isNaN_ok fns_nil) ?_
 rintro w0 O0 ⟨a,b,u⟩ hc - -
 simp only [compareIntS,entEnv]
 repeat' (first | exact trivial | refine eS rfl ?_ | refine ev_out_inv ?_ | refine rX [0,1,4,5,6,11,12,13,16,19] hc ?_ ?_ | (refine rC (fun hcond=>?_) (fun hcond=>?_)<;>try (cases hcond;done)))
 ·have e:cmpI a b=-1:=if_pos hcond
  exact ev_fin hc [.tmp 4] rfl (.inl rfl) (by simp) (by rw [e];first | exact eR | refine eRM ?_)
 ·have e:cmpI a b=1:=by unfold cmpI;rw [if_neg (by omega),if_pos hcond]
  exact ev_fin hc [.tmp 4] rfl (.inl rfl) (by simp) (by rw [e];first | exact eR | refine eRM ?_)
 ·have e:cmpI a b=0:=by unfold cmpI;rw [if_neg (by omega),if_neg (by omega)]
  exact ev_fin hc [.tmp 4] rfl (.inl rfl) (by simp) (by rw [e];first | exact eR | refine eRM ?_)
theorem byFeature_ok:FnOk Try.prog 113 byFeatureS:=by
 refine fn_ok Try.func113 (by kernel_rfl) rfl Try.ntmps113 (by decide) (by kernel_rfl) (tyTab_ok [(126,compareIntS)]) (fns_cons compareInt_ok fns_nil) ?_
 rintro w0 O0 ⟨a,b,u⟩ hc - -
 simp only [byFeatureS,entEnv]
 repeat' (first | exact trivial | refine eS rfl ?_ | refine ev_out_inv ?_ | refine rX [0,1,2,3,4] hc ?_ ?_ | (refine rC (fun hcond=>?_) (fun hcond=>?_)<;>try (cases hcond;done)))
 exact ev_fin hc [.tmp 4] rfl (.inl rfl) (by simp) (by first | exact eR | refine eRM ?_)
def SrtA (l:List (Int×Int)):Prop:=∀ i,i + 1 < l.length→(l.getD i (0,0)).1 < (l.getD (i + 1) (0,0)).1
theorem insertion_ok (l:List (Int×Int)) (hl:l.length≤100000) (hs:SrtA l):CallM Try.prog 134 [.sr 1000000 T78 0 l.length,.p T3 (0:Int),.p T3 (l.length:Int),.fn 113] [(1000000,.arr 78 T78 l)] [1000000] (fun res objs'=>res=.raw (.tuple #[])∧objs'=[(1000000,.arr 78 T78 l)]):=by
 refine fnM_ok Try.func134 (by kernel_rfl) rfl Try.ntmps134 (by simp only [List.length_cons,List.length_nil];omega) (by kernel_rfl) rfl rfl (tyTab_ok [(113,byFeatureS)]) (fns_cons byFeature_ok fns_nil) ?_
 intro w0 K O0 ρ0 hc hok1 hok2
 simp only [argEnv]
 repeat' (first | exact trivial | refine eS rfl ?_ | refine ev_out_inv ?_ | refine rX [0,1,2,3,8,9,14,34] hc ?_ ?_ | (refine rC (fun hcond=>?_) (fun hcond=>?_)<;>try (cases hcond;done)))
 ·omega
 ·refine ev_loop (ι:={i:Nat // 1≤i∧(i=1∨i≤l.length)}) (fun i=>⟨[(0,.sr 1000000 T78 0 l.length),(1,.p T3 (0:Int)),(2,.p T3 (l.length:Int)),(3,.fn 113),(8,.p (.int .i64) (i.1:Int))],[(1000000,.arr 78 T78 l)]⟩) (fun i=>l.length - i.1) ⟨1,by omega⟩ (ent_match [(1000000,.nm 1000000)] rfl rfl ?_ ?_) (fun i=>?_)
  ·first | exact eN | refine eM ?_
  ·first | exact eN | refine eM ?_
  ·obtain ⟨i,hi1,hi2⟩:=i
   repeat' (first | exact trivial | refine eS rfl ?_ | refine ev_out_inv ?_ | refine rX [0,1,2,3,8,9,14,34] hc ?_ ?_ | (refine rC (fun hcond=>?_) (fun hcond=>?_)<;>try (cases hcond;done)))
   ·have hil:i < l.length:=by exact eV
    refine ev_loop (ι:=Unit) (fun j=>⟨[(0,.sr 1000000 T78 0 l.length),(1,.p T3 (0:Int)),(2,.p T3 (l.length:Int)),(3,.fn 113),(8,.p (.int .i64) (i:Int)),(9,.p (.int .i64) (i:Int))],[(1000000,.arr 78 T78 l)]⟩) (fun j=>0) () (ent_match [(1000000,.nm 1000000)] rfl rfl ?_ ?_) (fun j=>?_)
    ·first | exact eN | refine eM ?_
    ·first | exact eN | refine eM ?_
    ·repeat' (first | exact trivial | refine eS rfl ?_ | refine ev_out_inv ?_ | refine rX [0,1,2,3,8,9,14,34] hc ?_ ?_)
     ·dsimp only [Ty.den] at *
      refine ⟨fun _=>hcond,fun _=>⟨by omega,by omega⟩,fun _=>⟨by omega,by omega⟩⟩
     ·refine ev_condE (by simp only [go_sem,Nat.reduceEqDiff,reduceCtorEq,Nat.reduceAdd,Nat.reduceSub,Nat.reduceMul,Nat.reduceLeDiff,Nat.reduceLT,Int.reduceLE,Int.reduceToNat,Int.reduceNeg,↓reduceIte];rfl) ?_ ?_
      ·intro hc2
       exfalso
       simp only [Bool.and_eq_true,decide_eq_true_eq] at hc2
       have h2:=hc2.2
       have e:((i:Int) - 1).toNat=i - 1:=by omega
       have h3:=hs (i - 1) (by omega)
       rw [show i - 1 + 1=i by omega] at h3
       rw [e] at h2
       unfold cmpI at h2
       rw [if_neg (by omega),if_pos h3] at h2
       omega
      ·intro _
       repeat' (first | exact trivial | refine eS rfl ?_ | refine ev_out_inv ?_ | refine rX [0,1,2,3,8,9,14,34] hc ?_ ?_ | (refine rC (fun hcond=>?_) (fun hcond=>?_)<;>try (cases hcond;done)))
       ·dsimp only [Ty.den] at *
        omega
       ·refine ⟨⟨i + 1,by omega,.inr (by omega)⟩,by simp only;omega,ent_match [(1000000,.nm 1000000)] rfl rfl ?_ ?_⟩
        ·first | exact eN | refine eM ?_
        ·first | exact eN | refine eM ?_
   ·exact ev_finM hc [] rfl (.inr rfl) (.raw (.tuple #[])) rfl ⟨rfl,rfl⟩
end
/- The plain law under graph.canonical: the program's search and the reference's are one, where each node's arcs ascend. -/
section
def dfs (f:List GNode):Nat→List Int→Int→List Int
 | 0,o,_=>o
 | k + 1,o,n=>(f.getD n.toNat (0,[])).2.foldl (fun o a=>if a.2∈o then o else dfs f k o a.2) (o++[n])
def stepD (f:List GNode) (k:Nat) (o:List Int) (a:Int×Int):List Int:=if a.2∈o then o else dfs f k o a.2
theorem dfs_succ (f:List GNode) (k:Nat) (o:List Int) (n:Int):dfs f (k + 1) o n=(f.getD n.toNat (0,[])).2.foldl (stepD f k) (o++[n]):=rfl
structure DOk (f:List GNode) (o:List Int):Prop where
 nd:o.Nodup
 rng:∀ x∈o,0≤x∧x < (f.length:Int)
theorem DOk.len {f:List GNode} {o:List Int} (h:DOk f o):o.length≤f.length:=by
 have h1:(o.map Int.toNat).Nodup:=by
  rw [List.Nodup,List.pairwise_map]
  refine h.nd.imp_of_mem fun {a b} ha hb hne e=>hne ?_
  have:=h.rng a ha
  have:=h.rng b hb
  omega
 have:=nodup_len f.length (o.map Int.toNat) h1 (fun j hj=>by
  obtain ⟨x,hx,rfl⟩:=List.mem_map.1 hj
  have:=h.rng x hx
  omega)
 simpa using this
theorem DOk.snoc {f:List GNode} {o:List Int} (h:DOk f o) {n:Int} (h0:0≤n) (h1:n < f.length) (hn:n ∉ o):DOk f (o++[n]):=by
 refine ⟨?_,fun x hx=>?_⟩
 ·rw [List.nodup_append]
  refine ⟨h.nd,by simp,fun a ha b hb=>?_⟩
  have:b=n:=by simpa using hb
  subst this
  intro e
  subst e
  exact hn ha
 ·rcases List.mem_append.1 hx with hx | hx
  ·exact h.rng x hx
  ·have:x=n:=by simpa using hx
   subst this
   exact ⟨h0,h1⟩
theorem foldD_ok {f:List GNode} {k:Nat} (hv:∀ (o:List Int) (n:Int),DOk f o→0≤n→n < f.length→n ∉ o→DOk f (dfs f k o n)∧o <+: dfs f k o n) :
  ∀ (l:List (Int×Int)) (o:List Int),(∀ a∈l,0≤a.2∧a.2 < (f.length:Int))→DOk f o→DOk f (l.foldl (stepD f k) o)∧o <+: l.foldl (stepD f k) o
 | [],o,_,h=>⟨h,List.prefix_refl _⟩
 | a :: l,o,hl,h=>by
  simp only [List.foldl_cons]
  have hstep:DOk f (stepD f k o a)∧o <+: stepD f k o a:=by
   unfold stepD
   split
   ·exact ⟨h,List.prefix_refl _⟩
   ·rename_i hn
    exact hv o a.2 h (hl a (by simp)).1 (hl a (by simp)).2 hn
  obtain ⟨g1,g2⟩:=foldD_ok hv l _ (fun b hb=>hl b (by simp [hb])) hstep.1
  exact ⟨g1,hstep.2.trans g2⟩
theorem arcs_in' {f:List GNode} (hf:GoodF f) {n:Int} {a:Int×Int} (ha:a∈(f.getD n.toNat (0,[])).2):0≤a.2∧a.2 < f.length:=by
 by_cases h:n.toNat < f.length
 ·have hm:f.getD n.toNat (0,[])∈f:=by
   rw [List.getD_eq_getElem?_getD,List.getElem?_eq_getElem h];exact List.getElem_mem h
  exact (hf.2 _ hm).2 a ha
 ·rw [List.getD_eq_getElem?_getD,List.getElem?_eq_none (by omega)] at ha
  simp at ha
theorem dfs_ok {f:List GNode} (hf:GoodF f):∀ (k:Nat) (o:List Int) (n:Int),DOk f o→0≤n→n < f.length→n ∉ o→DOk f (dfs f k o n)∧o <+: dfs f k o n
 | 0,o,n,h,_,_,_=>⟨h,List.prefix_refl _⟩
 | k + 1,o,n,h,h0,h1,h2=>by
  obtain ⟨g1,g2⟩:=foldD_ok (dfs_ok hf k) _ _ (fun a ha=>arcs_in' hf ha) (h.snoc h0 h1 h2)
  rw [dfs_succ]
  exact ⟨g1,(List.prefix_append o [n]).trans g2⟩
theorem dfs_closed {f:List GNode} (hf:GoodF f):∀ (k:Nat) (o:List Int) (n:Int),DOk f o→0≤n→n < f.length→n ∉ o→f.length - o.length≤k →
  n∈dfs f k o n∧∀ x∈dfs f k o n,x∈o∨∀ a∈(f.getD x.toNat (0,[])).2,a.2∈dfs f k o n
 | 0,o,n,h,h0,h1,h2,hk=>by
  have:=(h.snoc h0 h1 h2).len
  simp only [List.length_append,List.length_singleton] at this
  omega
 | k + 1,o,n,h,h0,h1,h2,hk=>by
  have key:∀ (l:List (Int×Int)) (t:List Int),(∀ a∈l,0≤a.2∧a.2 < (f.length:Int))→DOk f t→f.length - t.length≤k →
    (∀ a∈l,a.2∈l.foldl (stepD f k) t)∧∀ x∈l.foldl (stepD f k) t,x∈t∨∀ a∈(f.getD x.toNat (0,[])).2,a.2∈l.foldl (stepD f k) t:=by
   intro l
   induction l with
   | nil=>exact fun t _ _ _=>⟨fun a ha=>(by cases ha),fun x hx=>.inl hx⟩
   | cons a l ih =>
    intro t hl ht hlen
    simp only [List.foldl_cons]
    have hstep:DOk f (stepD f k t a)∧t <+: stepD f k t a∧a.2∈stepD f k t a∧∀ x∈stepD f k t a,x∈t∨∀ b∈(f.getD x.toNat (0,[])).2,b.2∈stepD f k t a:=by
     unfold stepD
     split
     ·rename_i hn
      exact ⟨ht,List.prefix_refl _,hn,fun x hx=>.inl hx⟩
     ·rename_i hn
      have q:=hl a (by simp)
      obtain ⟨g1,g2⟩:=dfs_ok hf k t a.2 ht q.1 q.2 hn
      obtain ⟨g3,g4⟩:=dfs_closed hf k t a.2 ht q.1 q.2 hn hlen
      exact ⟨g1,g2,g3,g4⟩
    obtain ⟨g1,g2,g3,g4⟩:=hstep
    have hle:=g2.length_le
    obtain ⟨i1,i2⟩:=ih (stepD f k t a) (fun b hb=>hl b (by simp [hb])) g1 (by omega)
    obtain ⟨_,j2⟩:=foldD_ok (dfs_ok hf k) l (stepD f k t a) (fun b hb=>hl b (by simp [hb])) g1
    refine ⟨fun b hb=>?_,fun x hx=>?_⟩
    ·rcases List.mem_cons.1 hb with rfl | hb
     ·exact j2.subset g3
     ·exact i1 b hb
    ·rcases i2 x hx with hx | hx
     ·rcases g4 x hx with hx | hx
      ·exact .inl hx
      ·exact .inr fun b hb=>j2.subset (hx b hb)
     ·exact .inr hx
  have hs:=h.snoc h0 h1 h2
  obtain ⟨g1,g2⟩:=key (f.getD n.toNat (0,[])).2 (o++[n]) (fun a ha=>arcs_in' hf ha) hs (by simp only [List.length_append,List.length_singleton];omega)
  obtain ⟨_,g3⟩:=foldD_ok (dfs_ok hf k) (f.getD n.toNat (0,[])).2 (o++[n]) (fun a ha=>arcs_in' hf ha) hs
  rw [dfs_succ]
  refine ⟨g3.subset (by simp),fun x hx=>?_⟩
  rcases g2 x hx with hx | hx
  ·rcases List.mem_append.1 hx with hx | hx
   ·exact .inl hx
   ·have:x=n:=by simpa using hx
    subst this
    exact .inr g1
  ·exact .inr hx
def idxZ (o:List Int) (x:Int):Int:=if x∈o then (o.idxOf x:Int) else 0
def renD (o:List Int) (a:Int×Int):Int×Int:=(a.1,idxZ o a.2)
def nodeD (f:List GNode) (o:List Int) (n:Int):GNode:=((f.getD n.toNat (0,[])).1,(f.getD n.toNat (0,[])).2.map (renD o))
def canonicalF (f:List GNode) (root:Int):List GNode:=(dfs f f.length [] root).map (nodeD f (dfs f f.length [] root))
def SrtF (f:List GNode):Prop:=∀ x∈f,SrtA x.2∧x.2.length≤200
theorem srt_of {f:List GNode} (hf:SrtF f) (n:Int):SrtA (f.getD n.toNat (0,[])).2∧(f.getD n.toNat (0,[])).2.length≤200:=by
 by_cases h:n.toNat < f.length
 ·have hm:f.getD n.toNat (0,[])∈f:=by
   rw [List.getD_eq_getElem?_getD,List.getElem?_eq_getElem h];exact List.getElem_mem h
  exact hf _ hm
 ·rw [List.getD_eq_getElem?_getD,List.getElem?_eq_none (by omega)]
  exact ⟨fun i hi=>by simp at hi,by simp⟩
theorem sortedF_srt {l:List (Int×Int)} (h:SrtA l):sortedF l=l:=by
 have key:∀ i,i≤l.length→sortedF (l.take i)=l.take i:=by
  intro i
  induction i with
  | zero=>intro _;rfl
  | succ i ih =>
   intro hi
   rw [take_snoc l (0,0) (by omega),sortedF_snoc,ih (by omega)]
   have hlen:(l.take i).length=i:=by rw [List.length_take];omega
   have hpos:posF (l.getD i (0,0)) (l.take i) (l.take i).length=(l.take i).length:=by
    rw [hlen]
    cases i with
    | zero=>rfl
    | succ i =>
     have h1:=h i (by omega)
     have h2:(l.take (i + 1)).getD i (0,0)=l.getD i (0,0):=by
      simp only [List.getD_eq_getElem?_getD]
      rw [List.getElem?_take];simp
     simp only [posF]
     rw [h2,if_neg (by omega)]
   unfold insF
   rw [hpos,List.take_length,List.drop_length,List.append_nil]
 have:=key l.length (Nat.le_refl _)
 rwa [List.take_length] at this
structure NumOk (f:List GNode) (num o:List Int):Prop where
 len:num.length=f.length
 get:∀ j,j < f.length→num.getD j 0=if (j:Int)∈o then (o.idxOf (j:Int):Int) else -1
theorem NumOk.neg {f:List GNode} {num o:List Int} (h:NumOk f num o) {n:Int} (h0:0≤n) (h1:n < f.length):num.getD n.toNat 0 < 0↔n ∉ o:=by
 have:=h.get n.toNat (by omega)
 rw [show ((n.toNat:Nat):Int)=n by omega] at this
 rw [this]
 split
 ·rename_i hm
  constructor
  ·intro e;omega
  ·intro e;exact absurd hm e
 ·rename_i hm
  exact ⟨fun _=>hm,fun _=>by omega⟩
theorem idxOf_mem {o:List Int} {x n:Int} (h:x∈o):(o++[n]).idxOf x=o.idxOf x:=by rw [List.idxOf_append,if_pos h]
theorem idxOf_new {o:List Int} {n:Int} (h:n ∉ o):(o++[n]).idxOf n=o.length:=by rw [List.idxOf_append,if_neg h];simp
theorem NumOk.snoc {f:List GNode} {num o:List Int} (h:NumOk f num o) {n:Int} (h0:0≤n) (h1:n < f.length) (hn:n ∉ o):NumOk f (num.set n.toNat (o.length:Int)) (o++[n]):=by
 refine ⟨by simpa using h.len,fun j hj=>?_⟩
 have hj':j < num.length:=by rw [h.len];exact hj
 by_cases e:j=n.toNat
 ·subst e
  have en:((n.toNat:Nat):Int)=n:=by omega
  rw [en]
  simp only [List.getD_eq_getElem?_getD]
  rw [List.getElem?_set_self hj',if_pos (by simp),idxOf_new hn]
  simp
 ·have en:¬ (j:Int)=n:=by omega
  simp only [List.getD_eq_getElem?_getD]
  rw [List.getElem?_set_ne (fun e'=>e e'.symm)]
  have:=h.get j hj
  simp only [List.getD_eq_getElem?_getD] at this
  rw [this]
  by_cases hm:(j:Int)∈o
  ·rw [if_pos hm,if_pos (by simp [hm]),idxOf_mem hm]
  ·rw [if_neg hm,if_neg (by simp [hm,en])]
theorem visitF_dfs {f:List GNode} (hf:GoodF f) (hs:SrtF f):∀ (k:Nat) (s:List Int×List Int) (n:Int),NumOk f s.1 s.2→DOk f s.2→0≤n→n < f.length→n ∉ s.2→(visitF f k s n).2=dfs f k s.2 n∧NumOk f (visitF f k s n).1 (visitF f k s n).2
 | 0,s,n,h,_,_,_,_=>⟨rfl,h⟩
 | k + 1,s,n,h,hd,h0,h1,h2=>by
  have key:∀ (l:List (Int×Int)) (t:List Int×List Int),(∀ a∈l,0≤a.2∧a.2 < (f.length:Int))→NumOk f t.1 t.2→DOk f t.2→(l.foldl (stepV f k) t).2=l.foldl (stepD f k) t.2∧NumOk f (l.foldl (stepV f k) t).1 (l.foldl (stepV f k) t).2:=by
   intro l
   induction l with
   | nil=>exact fun t _ ht _=>⟨rfl,ht⟩
   | cons a l ih =>
    intro t hl ht htd
    simp only [List.foldl_cons]
    have q:=hl a (by simp)
    have hq:=ht.neg q.1 q.2
    have hstep:(stepV f k t a).2=stepD f k t.2 a∧NumOk f (stepV f k t a).1 (stepV f k t a).2∧DOk f (stepV f k t a).2:=by
     unfold stepV stepD
     by_cases hm:a.2∈t.2
     ·rw [if_pos hm,if_neg (by rw [hq];exact fun e=>e hm)]
      exact ⟨rfl,ht,htd⟩
     ·rw [if_neg hm,if_pos (by rw [hq];exact hm)]
      obtain ⟨g1,g2⟩:=visitF_dfs hf hs k t a.2 ht htd q.1 q.2 hm
      exact ⟨g1,g2,by rw [g1];exact (dfs_ok hf k t.2 a.2 htd q.1 q.2 hm).1⟩
    obtain ⟨g1,g2,g3⟩:=hstep
    obtain ⟨i1,i2⟩:=ih (stepV f k t a) (fun b hb=>hl b (by simp [hb])) g2 g3
    rw [g1] at i1
    exact ⟨i1,i2⟩
  rw [visitF_succ,dfs_succ,sortedF_srt (srt_of hs n).1]
  exact key _ (s.1.set n.toNat (s.2.length:Int),s.2++[n]) (fun a ha=>arcs_in' hf ha) (h.snoc h0 h1 h2) (hd.snoc h0 h1 h2)
theorem from_canonical {f:List GNode} (hf:GoodF f) (hs:SrtF f) {root:Int} (h0:0≤root) (h1:root < f.length):fromF f root=canonicalF f root:=by
 have hn0:NumOk f (List.replicate f.length (-1)) []:=⟨by simp,fun j hj=>by simp [List.getD_eq_getElem?_getD,List.getElem?_replicate,hj]⟩
 have hd0:DOk f []:=⟨by simp,fun x hx=>by cases hx⟩
 obtain ⟨g1,g2⟩:=visitF_dfs hf hs f.length (List.replicate f.length (-1),[]) root hn0 hd0 h0 h1 (by simp)
 have g1:(travF f root).2=dfs f f.length [] root:=g1
 have g2:NumOk f (travF f root).1 (travF f root).2:=g2
 have hc:=(dfs_closed hf f.length [] root hd0 h0 h1 (by simp) (by simp)).2
 have ho:=(dfs_ok hf f.length [] root hd0 h0 h1 (by simp)).1
 unfold fromF canonicalF
 rw [g1] at g2 ⊢
 generalize dfs f f.length [] root=o at *
 refine List.map_congr_left fun x hx=>?_
 unfold nodeF nodeD
 rw [sortedF_srt (srt_of hs x).1]
 refine congrArg _ (List.map_congr_left fun a ha=>?_)
 unfold renA renD idxZ
 have hin:a.2∈o:=by
  rcases hc x hx with hx' | hx'
  ·cases hx'
  ·exact hx' a ha
 have hr:=arcs_in' hf ha
 have:=g2.get a.2.toNat (by omega)
 rw [show ((a.2.toNat:Nat):Int)=a.2 by omega] at this
 rw [this,if_pos hin,if_pos hin]
/-! The program's map of numbers -/
def mOf (o:List Int):List (Int×Int):=(List.range o.length).map fun i=>(o.getD i 0,(i:Int))
theorem mOf_snoc (o:List Int) (n:Int):mOf (o++[n])=mOf o++[(n,(o.length:Int))]:=by
 unfold mOf
 rw [List.length_append,List.length_singleton,List.range_succ,List.map_append]
 congr 1
 ·refine List.map_congr_left fun i hi=>?_
  have:i < o.length:=List.mem_range.1 hi
  simp only [List.getD_eq_getElem?_getD]
  rw [List.getElem?_append_left this]
 ·simp [List.getD_eq_getElem?_getD]
theorem mfind_app (k:Int) (a b:List (Int×Int)):mfind T3 T3 k (a++b)=(mfind T3 T3 k a).or (mfind T3 T3 k b):=by
 induction a with
 | nil=>rfl
 | cons x a ih =>
  simp only [List.cons_append,mfind]
  split
  ·rfl
  ·exact ih
theorem list_snoc_ind {α:Type} {p:List α→Prop} (h0:p []) (h1:∀ l a,p l→p (l++[a])) (l:List α):p l:=by
 have:∀ n (l:List α),l.length=n→p l:=by
  intro n
  induction n with
  | zero=>intro l hl;rw [List.length_eq_zero_iff.1 hl];exact h0
  | succ n ih =>
   intro l hl
   have hne:l≠[]:=by intro e;subst e;simp at hl
   rw [← List.dropLast_concat_getLast hne]
   exact h1 _ _ (ih _ (by simp [hl]))
 exact this _ l rfl
theorem mfind_mOf (o:List Int) (x:Int):mfind T3 T3 x (mOf o)=if x∈o then some (o.idxOf x:Int) else none:=by
 induction o using list_snoc_ind with
 | h0=>rfl
 | h1 o n ih =>
  rw [mOf_snoc,mfind_app,ih]
  by_cases hx:x∈o
  ·rw [if_pos hx,if_pos (by simp [hx]),idxOf_mem hx];rfl
  ·rw [if_neg hx]
   by_cases hn:x=n
   ·subst hn
    rw [if_pos (by simp),idxOf_new hx]
    simp [mfind,eqT]
   ·rw [if_neg (by simp [hx,hn])]
    have:((x == n)=true)↔False:=by simp [hn]
    simp [mfind,eqT,hn]
theorem mput_none (k v:Int) (l:List (Int×Int)) (h:mfind T3 T3 k l=none):mput T3 T3 k v l=l++[(k,v)]:=by
 induction l with
 | nil=>rfl
 | cons x l ih =>
  simp only [mfind] at h
  simp only [mput,List.cons_append]
  split at h
  ·cases h
  ·rename_i hne
   rw [if_neg hne,ih h]
theorem mput_mOf {o:List Int} {n:Int} (hn:n ∉ o):mput T3 T3 n (o.length:Int) (mOf o)=mOf (o++[n]):=by
 rw [mput_none _ _ _ (by rw [mfind_mOf,if_neg hn]),mOf_snoc]
theorem idxZ_eq (o:List Int) (x:Int):(mfind T3 T3 x (mOf o)).getD 0=idxZ o x:=by
 rw [mfind_mOf]
 unfold idxZ
 split<;>rfl
theorem isSome_mOf (o:List Int) (x:Int):(mfind T3 T3 x (mOf o)).isSome=decide (x∈o):=by
 rw [mfind_mOf]
 split<;>simp [*]
end
/- Functions of Go's library under graph.canonical: the sort of sorted elements. -/
section
attribute [local go_sem] byFeatureS
theorem srtA_lt {l:List (Int×Int)} (hs:SrtA l):∀ {d i:Nat},i + d + 1 < l.length→(l.getD i (0,0)).1 < (l.getD (i + d + 1) (0,0)).1
 | 0,i,h=>hs i h
 | d + 1,i,h=>by
  have h1:=srtA_lt hs (d:=d) (i:=i) (by omega)
  have h2:=hs (i + d + 1) (by omega)
  rw [show i + (d + 1) + 1=i + d + 1 + 1 by omega]
  omega
theorem srtA_lt2 {l:List (Int×Int)} (hs:SrtA l) {i j:Nat} (h:i < j) (hj:j < l.length):(l.getD i (0,0)).1 < (l.getD j (0,0)).1:=by
 have:=srtA_lt hs (d:=j - i - 1) (i:=i) (by omega)
 rwa [show i + (j - i - 1) + 1=j by omega] at this
theorem cmpI_gt {a b:Int} (h:a < b):¬ cmpI b a < 0:=by
 unfold cmpI
 rw [if_neg (by omega),if_pos h]
 omega
def swO (l:List (Int×Int)):List (Nat×Obj):=[(1000000,.arr 78 T78 l),(70,.box 3 false [.p T3 (0:Int)])]
theorem order2_ok (l:List (Int×Int)) (hs:SrtA l) {a b:Int} (a0:0≤a) (ab:a < b) (bl:b < (l.length:Int)):CallM Try.prog 151 [.sr 1000000 T78 0 l.length,.p T3 a,.p T3 b,.bp 70 [] 0,.fn 113] (swO l) [1000000,70] (fun res objs'=>res=.tup [.p T3 a,.p T3 b]∧objs'=swO l):=by
 refine fnM_ok Try.func151 (by kernel_rfl) rfl Try.ntmps151 (by simp only [List.length_cons,List.length_nil];omega) (by kernel_rfl) rfl rfl (tyTab_ok [(113,byFeatureS)]) (fns_cons byFeature_ok fns_nil) ?_
 intro w0 K O0 ρ0 hc hok1 hok2
 have b0:0≤b:=by omega
 have al:a < (l.length:Int):=by omega
 simp only [argEnv,swO]
 repeat' (first | exact trivial | refine eS rfl ?_ | refine ev_out_inv ?_ | refine rX [0,1,2,3,4,10,11,22] hc ?_ ?_ | (refine rC (fun hcond=>?_) (fun hcond=>?_)<;>try (cases hcond;done)))
 ·exact ⟨⟨b0,bl⟩,a0,al⟩
 ·exfalso
  exact cmpI_gt (srtA_lt2 hs (i:=a.toNat) (j:=b.toNat) (by omega) (by omega)) hcond
 ·exfalso
  exact cmpI_gt (srtA_lt2 hs (i:=a.toNat) (j:=b.toNat) (by omega) (by omega)) hcond
 ·exact ev_finM hc [.tmp 10,.tmp 11] rfl (.inl rfl) (.tup [.p T3 a,.p T3 b]) eT ⟨rfl,rfl⟩
theorem median_ok (l:List (Int×Int)) (hs:SrtA l) {a b c:Int} (a0:0≤a) (ab:a < b) (bc:b < c) (cl:c < (l.length:Int)):CallM Try.prog 150 [.sr 1000000 T78 0 l.length,.p T3 a,.p T3 b,.p T3 c,.bp 70 [] 0,.fn 113] (swO l) [1000000,70] (fun res objs'=>res=.p T3 b∧objs'=swO l):=by
 refine fnM_ok Try.func150 (by kernel_rfl) rfl Try.ntmps150 (by simp only [List.length_cons,List.length_nil];omega) (by kernel_rfl) rfl rfl (tyTab_ok []) fns_nil ?_
 intro w0 K O0 ρ0 hc hok1 hok2
 simp only [argEnv,swO]
 have bl:b < (l.length:Int):=by omega
 have b0:0≤b:=by omega
 have key1:=order2_ok l hs a0 ab bl
 have key2:=order2_ok l hs b0 bc cl
 repeat' (first | exact trivial | refine eS rfl ?_ | refine ev_out_inv ?_ | refine rX [0,1,2,3,4,5,12] hc ?_ ?_ | (refine rC (fun hcond=>?_) (fun hcond=>?_)<;>try (cases hcond;done)))
 refine cP 5 hc ?_ ?_
 ·trivial
 ·refine rM hc (key1) [(1000000,.nm 1000000),(70,.nm 70)] [] ?_ ?_ ?_
  ·first | exact eN | refine eM ?_
  ·simp only [swO]
   first | exact eN | refine eM ?_
  ·rintro _ _ ⟨rfl,rfl⟩
   refine ⟨[(1000000,.nm 1000000),(70,.nm 70)],.tup [.p T3 a,.p T3 b],[(1000000,.arr 78 T78 l),(70,.box 3 false [.p T3 (0:Int)])],rfl,rfl,?_,?_,rfl,rfl,?_⟩
   ·simp only [swO]
    first | exact eN | refine eM ?_
   ·first | exact eN | refine eM ?_
   ·refine rL [0,1,2,3,4,5,12] hc ?_ ?_
    ·trivial
    ·repeat' (first | exact trivial | refine eS rfl ?_ | refine ev_out_inv ?_ | refine rX [0,1,2,3,4,5,12] hc ?_ ?_ | (refine rC (fun hcond=>?_) (fun hcond=>?_)<;>try (cases hcond;done)))
     refine cP 5 hc ?_ ?_
     ·trivial
     ·refine rM hc (key2) [(1000000,.nm 1000000),(70,.nm 70)] [] ?_ ?_ ?_
      ·first | exact eN | refine eM ?_
      ·simp only [swO]
       first | exact eN | refine eM ?_
      ·rintro _ _ ⟨rfl,rfl⟩
       refine ⟨[(1000000,.nm 1000000),(70,.nm 70)],.tup [.p T3 b,.p T3 c],[(1000000,.arr 78 T78 l),(70,.box 3 false [.p T3 (0:Int)])],rfl,rfl,?_,?_,rfl,rfl,?_⟩
       ·simp only [swO]
        first | exact eN | refine eM ?_
       ·first | exact eN | refine eM ?_
       ·refine rL [0,1,2,3,4,5,12] hc ?_ ?_
        ·trivial
        ·repeat' (first | exact trivial | refine eS rfl ?_ | refine ev_out_inv ?_ | refine rX [0,1,2,3,4,5,12] hc ?_ ?_ | (refine rC (fun hcond=>?_) (fun hcond=>?_)<;>try (cases hcond;done)))
         refine cP 5 hc ?_ ?_
         ·trivial
         ·refine rM hc (key1) [(1000000,.nm 1000000),(70,.nm 70)] [] ?_ ?_ ?_
          ·first | exact eN | refine eM ?_
          ·simp only [swO]
           first | exact eN | refine eM ?_
          ·rintro _ _ ⟨rfl,rfl⟩
           refine ⟨[(1000000,.nm 1000000),(70,.nm 70)],.tup [.p T3 a,.p T3 b],[(1000000,.arr 78 T78 l),(70,.box 3 false [.p T3 (0:Int)])],rfl,rfl,?_,?_,rfl,rfl,?_⟩
           ·simp only [swO]
            first | exact eN | refine eM ?_
           ·first | exact eN | refine eM ?_
           ·refine rL [0,1,2,3,4,5,12] hc ?_ ?_
            ·trivial
            ·repeat' (first | exact trivial | refine eS rfl ?_ | refine ev_out_inv ?_ | refine rX [0,1,2,3,4,5,12] hc ?_ ?_ | (refine rC (fun hcond=>?_) (fun hcond=>?_)<;>try (cases hcond;done)))
             exact ev_finM hc [.tmp 12] rfl (.inl rfl) (.p T3 b) eT ⟨rfl,rfl⟩
theorem adjacent_ok (l:List (Int×Int)) (hs:SrtA l) {b:Int} (b0:1≤b) (bl:b + 1 < (l.length:Int)) (hl:l.length≤100000):CallM Try.prog 149 [.sr 1000000 T78 0 l.length,.p T3 b,.bp 70 [] 0,.fn 113] (swO l) [1000000,70] (fun res objs'=>res=.p T3 b∧objs'=swO l):=by
 refine fnM_ok Try.func149 (by kernel_rfl) rfl Try.ntmps149 (by simp only [List.length_cons,List.length_nil];omega) (by kernel_rfl) rfl rfl (tyTab_ok []) fns_nil ?_
 intro w0 K O0 ρ0 hc hok1 hok2
 simp only [argEnv,swO]
 repeat' (first | exact trivial | refine eS rfl ?_ | refine ev_out_inv ?_ | refine rX [0,1,2,3,8] hc ?_ ?_ | (refine rC (fun hcond=>?_) (fun hcond=>?_)<;>try (cases hcond;done)))
 refine cP 8 hc ?_ ?_
 ·exact eV
 ·refine rM hc (median_ok l hs (a:=b - 1) (b:=b) (c:=b + 1) (by omega) (by omega) (by omega) bl) [(1000000,.nm 1000000),(70,.nm 70)] [] ?_ ?_ ?_
  ·first | exact eN | refine eM ?_
  ·simp only [swO]
   first | exact eN | refine eM ?_
  ·rintro _ _ ⟨rfl,rfl⟩
   refine ⟨[(1000000,.nm 1000000),(70,.nm 70)],.p T3 b,[(1000000,.arr 78 T78 l),(70,.box 3 false [.p T3 (0:Int)])],rfl,rfl,?_,?_,rfl,rfl,?_⟩
   ·simp only [swO]
    first | exact eN | refine eM ?_
   ·first | exact eN | refine eM ?_
   ·refine rL [0,1,2,3,8] hc ?_ ?_
    ·trivial
    ·repeat' (first | exact trivial | refine eS rfl ?_ | refine ev_out_inv ?_ | refine rX [0,1,2,3,8] hc ?_ ?_ | (refine rC (fun hcond=>?_) (fun hcond=>?_)<;>try (cases hcond;done)))
     exact ev_finM hc [.tmp 8] rfl (.inl rfl) (.p T3 b) eT ⟨rfl,rfl⟩
theorem partial_ok (l:List (Int×Int)) (hs:SrtA l) (h0:1≤l.length) (hl:l.length≤100000):CallM Try.prog 139 [.sr 1000000 T78 0 l.length,.p T3 (0:Int),.p T3 (l.length:Int),.fn 113] [(1000000,.arr 78 T78 l)] [1000000] (fun res objs'=>res=.p .bool true∧objs'=[(1000000,.arr 78 T78 l)]):=by
 refine fnM_ok Try.func139 (by kernel_rfl) rfl Try.ntmps139 (by simp only [List.length_cons,List.length_nil];omega) (by kernel_rfl) rfl rfl (tyTab_ok [(113,byFeatureS)]) (fns_cons byFeature_ok fns_nil) ?_
 intro w0 K O0 ρ0 hc hok1 hok2
 simp only [argEnv]
 repeat' (first | exact trivial | refine eS rfl ?_ | refine ev_out_inv ?_ | refine rX [0,1,2,3,8,9,10,11,12,16,36,41,45,65,69,84,104,109,124] hc ?_ ?_ | (refine rC (fun hcond=>?_) (fun hcond=>?_)<;>try (cases hcond;done)))
 ·exact eV
 ·refine ev_loop (ι:=Unit) (fun u=>⟨[(0,.sr 1000000 T78 0 l.length),(1,.p T3 (0:Int)),(2,.p T3 (l.length:Int)),(3,.fn 113),(9,.p T3 (1:Int)),(10,.p T3 (0:Int))],[(1000000,.arr 78 T78 l)]⟩) (fun u=>0) () (ent_match [(1000000,.nm 1000000)] rfl rfl ?_ ?_) (fun u=>?_)
  ·first | exact eN | refine eM ?_
  ·first | exact eN | refine eM ?_
   rfl
  ·repeat' (first | exact trivial | refine eS rfl ?_ | refine ev_out_inv ?_ | refine rX [0,1,2,3,8,9,10,11,12,16,36,41,45,65,69,84,104,109,124] hc ?_ ?_)
   refine rC (fun hcond=>?_) (fun hcond=>?_)
   ·repeat' (first | exact trivial | refine eS rfl ?_ | refine ev_out_inv ?_ | refine rX [0,1,2,3,8,9,10,11,12,16,36,41,45,65,69,84,104,109,124] hc ?_ ?_)
    refine ev_loop (ι:={i:Nat // 1≤i∧i≤l.length}) (fun i=>⟨[(0,.sr 1000000 T78 0 l.length),(1,.p T3 (0:Int)),(2,.p T3 (l.length:Int)),(3,.fn 113),(9,.p (.int .i64) (i.1:Int)),(10,.p T3 (0:Int))],[(1000000,.arr 78 T78 l)]⟩) (fun i=>l.length - i.1) ⟨1,Nat.le_refl _,h0⟩ (ent_match [(1000000,.nm 1000000)] rfl rfl ?_ ?_) (fun i=>?_)
    ·first | exact eN | refine eM ?_
    ·first | exact eN | refine eM ?_
     rfl
    ·obtain ⟨i,hi1,hi2⟩:=i
     have hlt:=fun (h:i < l.length)=>cmpI_gt (srtA_lt2 hs (i:=i - 1) (j:=i) (by omega) h)
     have him:((i:Int) - 1).toNat=i - 1:=by omega
     simp only
     repeat' (first | exact trivial | refine eS rfl ?_ | refine ev_out_inv ?_ | refine rX [0,1,2,3,8,9,10,11,12,16,36,41,45,65,69,84,104,109,124] hc ?_ ?_)
     ·dsimp only [Ty.den] at *
      exact ⟨fun h=>h,fun _=>⟨by omega,by omega⟩,fun _=>⟨by omega,by omega⟩⟩
     ·refine rC (fun hcond2=>?_) (fun hcond2=>?_)
      ·repeat' (first | exact trivial | refine eS rfl ?_ | refine ev_out_inv ?_ | refine rX [0,1,2,3,8,9,10,11,12,16,36,41,45,65,69,84,104,109,124] hc ?_ ?_)
       ·exact eV
       ·refine ⟨⟨i + 1,by omega,Int.ofNat_lt.1 hcond2.1⟩,by have:=Int.ofNat_lt.1 hcond2.1;simp only;omega,ent_match [(1000000,.nm 1000000)] rfl rfl ?_ ?_⟩
        ·first | exact eN | refine eM ?_
        ·first | exact eN | refine eM ?_
      ·have hie:i=l.length:=by
        refine Classical.byContradiction fun e=>?_
        have h2:i < l.length:=by omega
        have h3:=hcond2 (Int.ofNat_lt.2 h2)
        rw [him] at h3
        exact hlt h2 h3
       subst hie
       repeat' (first | exact trivial | refine eS rfl ?_ | refine ev_out_inv ?_ | refine rX [0,1,2,3,8,9,10,11,12,16,36,41,45,65,69,84,104,109,124] hc ?_ ?_)
       refine rC (fun hcond3=>?_) (fun hcond3=>?_)
       ·repeat' (first | exact trivial | refine eS rfl ?_ | refine ev_out_inv ?_ | refine rX [0,1,2,3,8,9,10,11,12,16,36,41,45,65,69,84,104,109,124] hc ?_ ?_)
        exact ev_finM hc [.tmp 8] rfl (.inl rfl) (.p .bool true) eT ⟨rfl,rfl⟩
       ·cases hcond3
   ·exact absurd hcond (by decide)
theorem choose_ok (l:List (Int×Int)) (hs:SrtA l) (h0:13≤l.length) (hl:l.length≤100000):CallM Try.prog 137 [.sr 1000000 T78 0 l.length,.p T3 (0:Int),.p T3 (l.length:Int),.fn 113] [(1000000,.arr 78 T78 l)] [1000000] (fun res objs'=>(∃ j:Int,res=.tup [.p T3 j,.p T3 (1:Int)])∧objs'=[(1000000,.arr 78 T78 l)]):=by
 refine fnM_ok Try.func137 (by kernel_rfl) rfl Try.ntmps137 (by simp only [List.length_cons,List.length_nil];omega) (by kernel_rfl) rfl rfl (tyTab_ok []) fns_nil ?_
 intro w0 K O0 ρ0 hc hok1 hok2
 simp only [argEnv]
 have ht:0≤((l.length:Int) - 0).tdiv 4∧4 * ((l.length:Int) - 0).tdiv 4≤(l.length:Int)∧(l.length:Int) < 4 * ((l.length:Int) - 0).tdiv 4 + 4:=by
  rw [Int.sub_zero,show ((l.length:Int)).tdiv 4=((l.length / 4:Nat):Int) from rfl]
  omega
 obtain ⟨ht0,ht1,ht2⟩:=ht
 repeat' (first | exact trivial | refine eS rfl ?_ | refine ev_out_inv ?_ | refine rX [0,1,2,3,8,9,10,11,12,13,14,34,36,55,57,60] hc ?_ ?_ | (refine rC (fun hcond=>?_) (fun hcond=>?_)<;>try (cases hcond;done)))
 ·omega
 ·refine ⟨⟨by decide,?_⟩,?_,?_⟩<;>omega
 ·refine ⟨⟨by decide,?_⟩,?_,?_⟩<;>omega
 ·refine ⟨⟨by decide,?_⟩,?_,?_⟩<;>omega
 ·simp only [Int.sub_zero,Int.zero_add] at *
  generalize (l.length:Int).tdiv 4=t at *
  refine cP 3 hc ?_ ?_
  ·trivial
  ·refine rM hc (adjacent_ok l hs (b:=t * 1) (by omega) (by omega) hl) [(1000000,.nm 1000000),(70,.nm 11)] [] ?_ ?_ ?_
   ·first | exact eN | refine eM ?_
   ·simp only [swO]
    first | exact eN | refine eM ?_
   ·rintro _ _ ⟨rfl,rfl⟩
    refine ⟨[(1000000,.nm 1000000),(11,.nm 70)],.p T3 (t * 1),[(1000000,.arr 78 T78 l),(11,.box 3 false [.p T3 (0:Int)])],rfl,rfl,?_,?_,rfl,rfl,?_⟩
    ·simp only [swO]
     first | exact eN | refine eM ?_
    ·first | exact eN | refine eM ?_
    ·refine rL [0,1,2,3,8,9,10,11,12,13,14,34,36,55,57,60] hc ?_ ?_
     ·trivial
     ·repeat' (first | exact trivial | refine eS rfl ?_ | refine ev_out_inv ?_ | refine rX [0,1,2,3,8,9,10,11,12,13,14,34,36,55,57,60] hc ?_ ?_ | (refine rC (fun hcond=>?_) (fun hcond=>?_)<;>try (cases hcond;done)))
      refine cP 3 hc ?_ ?_
      ·trivial
      ·refine rM hc (adjacent_ok l hs (b:=t * 2) (by omega) (by omega) hl) [(1000000,.nm 1000000),(70,.nm 11)] [] ?_ ?_ ?_
       ·first | exact eN | refine eM ?_
       ·simp only [swO]
        first | exact eN | refine eM ?_
       ·rintro _ _ ⟨rfl,rfl⟩
        refine ⟨[(1000000,.nm 1000000),(11,.nm 70)],.p T3 (t * 2),[(1000000,.arr 78 T78 l),(11,.box 3 false [.p T3 (0:Int)])],rfl,rfl,?_,?_,rfl,rfl,?_⟩
        ·simp only [swO]
         first | exact eN | refine eM ?_
        ·first | exact eN | refine eM ?_
        ·refine rL [0,1,2,3,8,9,10,11,12,13,14,34,36,55,57,60] hc ?_ ?_
         ·trivial
         ·repeat' (first | exact trivial | refine eS rfl ?_ | refine ev_out_inv ?_ | refine rX [0,1,2,3,8,9,10,11,12,13,14,34,36,55,57,60] hc ?_ ?_ | (refine rC (fun hcond=>?_) (fun hcond=>?_)<;>try (cases hcond;done)))
          refine cP 3 hc ?_ ?_
          ·trivial
          ·refine rM hc (adjacent_ok l hs (b:=t * 3) (by omega) (by omega) hl) [(1000000,.nm 1000000),(70,.nm 11)] [] ?_ ?_ ?_
           ·first | exact eN | refine eM ?_
           ·simp only [swO]
            first | exact eN | refine eM ?_
           ·rintro _ _ ⟨rfl,rfl⟩
            refine ⟨[(1000000,.nm 1000000),(11,.nm 70)],.p T3 (t * 3),[(1000000,.arr 78 T78 l),(11,.box 3 false [.p T3 (0:Int)])],rfl,rfl,?_,?_,rfl,rfl,?_⟩
            ·simp only [swO]
             first | exact eN | refine eM ?_
            ·first | exact eN | refine eM ?_
            ·refine rL [0,1,2,3,8,9,10,11,12,13,14,34,36,55,57,60] hc ?_ ?_
             ·trivial
             ·repeat' (first | exact trivial | refine eS rfl ?_ | refine ev_out_inv ?_ | refine rX [0,1,2,3,8,9,10,11,12,13,14,34,36,55,57,60] hc ?_ ?_ | (refine rC (fun hcond=>?_) (fun hcond=>?_)<;>try (cases hcond;done)))
              refine cP 5 hc ?_ ?_
              ·trivial
              ·refine rM hc (median_ok l hs (a:=t * 1) (b:=t * 2) (c:=t * 3) (by omega) (by omega) (by omega) (by omega)) [(1000000,.nm 1000000),(70,.nm 11)] [] ?_ ?_ ?_
               ·first | exact eN | refine eM ?_
               ·simp only [swO]
                first | exact eN | refine eM ?_
               ·rintro _ _ ⟨rfl,rfl⟩
                refine ⟨[(1000000,.nm 1000000),(11,.nm 70)],.p T3 (t * 2),[(1000000,.arr 78 T78 l),(11,.box 3 false [.p T3 (0:Int)])],rfl,rfl,?_,?_,rfl,rfl,?_⟩
                ·simp only [swO]
                 first | exact eN | refine eM ?_
                ·first | exact eN | refine eM ?_
                ·refine rL [0,1,2,3,8,9,10,11,12,13,14,34,36,55,57,60] hc ?_ ?_
                 ·trivial
                 ·repeat' (first | exact trivial | refine eS rfl ?_ | refine ev_out_inv ?_ | refine rX [0,1,2,3,8,9,10,11,12,13,14,34,36,55,57,60] hc ?_ ?_ | (refine rC (fun hcond=>?_) (fun hcond=>?_)<;>try (cases hcond;done)))
                  refine Ev.ent (σ':=⟨[(8,.p T3 (t * 2)),(9,.p T3 (1:Int))],[(1000000,.arr 78 T78 l)]⟩) ?_ (ent_match [(1000000,.nm 1000000)] rfl rfl ?_ ?_)
                  ·exact ev_finM hc [.tmp 8,.tmp 9] rfl (.inl rfl) (.tup [.p T3 (t * 2),.p T3 (1:Int)]) eT ⟨⟨_,rfl⟩,rfl⟩
                  ·first | exact eN | refine eM ?_
                  ·first | exact eN | refine eM ?_
 ·simp only [Int.sub_zero,Int.zero_add] at *
  generalize (l.length:Int).tdiv 4=t at *
  refine cP 5 hc ?_ ?_
  ·trivial
  ·refine rM hc (median_ok l hs (a:=t * 1) (b:=t * 2) (c:=t * 3) (by omega) (by omega) (by omega) (by omega)) [(1000000,.nm 1000000),(70,.nm 11)] [] ?_ ?_ ?_
   ·first | exact eN | refine eM ?_
   ·simp only [swO]
    first | exact eN | refine eM ?_
   ·rintro _ _ ⟨rfl,rfl⟩
    refine ⟨[(1000000,.nm 1000000),(11,.nm 70)],.p T3 (t * 2),[(1000000,.arr 78 T78 l),(11,.box 3 false [.p T3 (0:Int)])],rfl,rfl,?_,?_,rfl,rfl,?_⟩
    ·simp only [swO]
     first | exact eN | refine eM ?_
    ·first | exact eN | refine eM ?_
    ·refine rL [0,1,2,3,8,9,10,11,12,13,14,34,36,55,57,60] hc ?_ ?_
     ·trivial
     ·repeat' (first | exact trivial | refine eS rfl ?_ | refine ev_out_inv ?_ | refine rX [0,1,2,3,8,9,10,11,12,13,14,34,36,55,57,60] hc ?_ ?_ | (refine rC (fun hcond=>?_) (fun hcond=>?_)<;>try (cases hcond;done)))
      refine Ev.ent (σ':=⟨[(8,.p T3 (t * 2)),(9,.p T3 (1:Int))],[(1000000,.arr 78 T78 l)]⟩) ?_ (ent_match [(1000000,.nm 1000000)] rfl rfl ?_ ?_)
      ·exact ev_finM hc [.tmp 8,.tmp 9] rfl (.inl rfl) (.tup [.p T3 (t * 2),.p T3 (1:Int)]) eT ⟨⟨_,rfl⟩,rfl⟩
      ·first | exact eN | refine eM ?_
      ·first | exact eN | refine eM ?_
 ·exfalso
  omega
theorem pdq_ok (l:List (Int×Int)) (lim:Int) (hl:l.length≤200) (hlim:13≤l.length→lim≠0) (hs:SrtA l):CallM Try.prog 129 [.sr 1000000 T78 0 l.length,.p T3 (0:Int),.p T3 (l.length:Int),.p T3 lim,.fn 113] [(1000000,.arr 78 T78 l)] [1000000] (fun res objs'=>res=.raw (.tuple #[])∧objs'=[(1000000,.arr 78 T78 l)]):=by
 refine fnM_ok Try.func129 (by kernel_rfl) rfl Try.ntmps129 (by simp only [List.length_cons,List.length_nil];omega) (by kernel_rfl) rfl rfl (tyTab_ok []) fns_nil ?_
 intro w0 K O0 ρ0 hc hok1 hok2
 simp only [argEnv]
 repeat' (first | exact trivial | refine eS rfl ?_ | refine ev_out_inv ?_ | refine rX [0,1,2,3,4,10,11,12,13,14,15,16,17,18,19,20,25,32,39,56,75,80,97,125] hc ?_ ?_ | (refine rC (fun hcond=>?_) (fun hcond=>?_)<;>try (cases hcond;done)))
 refine ev_loop (ι:=Unit) (fun x=>⟨[(0,.sr 1000000 T78 0 l.length),(1,.p T3 (0:Int)),(2,.p T3 (l.length:Int)),(3,.p T3 lim),(4,.fn 113),(10,.p .bool true),(11,.p .bool true)],[(1000000,.arr 78 T78 l)]⟩) (fun x=>0) () (ent_match [(1000000,.nm 1000000)] rfl rfl ?_ ?_) (fun x=>?_)
 ·first | exact eN | refine eM ?_
 ·first | exact eN | refine eM ?_
 ·repeat' (first | exact trivial | refine eS rfl ?_ | refine ev_out_inv ?_ | refine rX [0,1,2,3,4,10,11,12,13,14,15,16,17,18,19,20,25,32,39,56,75,80,97,125] hc ?_ ?_)
  ·omega
  ·refine rC (fun hcond=>?_) (fun hcond=>?_)
   ·repeat' (first | exact trivial | refine eS rfl ?_ | refine ev_out_inv ?_ | refine rX [0,1,2,3,4,10,11,12,13,14,15,16,17,18,19,20,25,32,39,56,75,80,97,125] hc ?_ ?_)
    refine cP 4 hc ?_ ?_
    ·trivial
    ·refine rM hc (insertion_ok l (by omega) hs) [(1000000,.nm 1000000)] [] ?_ ?_ ?_
     ·first | exact eN | refine eM ?_
     ·first | exact eN | refine eM ?_
     ·rintro _ _ ⟨rfl,rfl⟩
      refine ⟨[(1000000,.nm 1000000)],.raw (.tuple #[]),[(1000000,.arr 78 T78 l)],rfl,rfl,?_,?_,rfl,rfl,evL_end ?_⟩
      ·first | exact eN | refine eM ?_
      ·first | exact eN | refine eM ?_
      ·repeat' (first | exact trivial | refine eS rfl ?_ | refine ev_out_inv ?_ | refine rX [0,1,2,3,4,10,11,12,13,14,15,16,17,18,19,20,25,32,39,56,75,80,97,125] hc ?_ ?_)
       exact ev_finM hc [] rfl (.inl rfl) (.raw (.tuple #[])) rfl ⟨rfl,rfl⟩
   ·have h13:13≤l.length:=by
     have h:=Int.not_le.2 hcond
     omega
    repeat' (first | exact trivial | refine eS rfl ?_ | refine ev_out_inv ?_ | refine rX [0,1,2,3,4,10,11,12,13,14,15,16,17,18,19,20,25,32,39,56,75,80,97,125] hc ?_ ?_)
    refine rC (fun hcond=>?_) (fun hcond=>?_)
    ·exfalso
     exact hlim h13 hcond
    ·repeat' (first | exact trivial | refine eS rfl ?_ | refine ev_out_inv ?_ | refine rX [0,1,2,3,4,10,11,12,13,14,15,16,17,18,19,20,25,32,39,56,75,80,97,125] hc ?_ ?_)
     refine rC (fun hcond=>?_) (fun hcond=>?_)
     ·cases hcond
     ·repeat' (first | exact trivial | refine eS rfl ?_ | refine ev_out_inv ?_ | refine rX [0,1,2,3,4,10,11,12,13,14,15,16,17,18,19,20,25,32,39,56,75,80,97,125] hc ?_ ?_)
      refine cP 4 hc ?_ ?_
      ·trivial
      ·refine rM hc (choose_ok l hs h13 (by omega)) [(1000000,.nm 1000000)] [] ?_ ?_ ?_
       ·first | exact eN | refine eM ?_
       ·first | exact eN | refine eM ?_
       ·rintro _ _ ⟨⟨j,rfl⟩,rfl⟩
        refine ⟨[(1000000,.nm 1000000)],.tup [.p T3 j,.p T3 (1:Int)],[(1000000,.arr 78 T78 l)],rfl,rfl,?_,?_,rfl,rfl,?_⟩
        ·first | exact eN | refine eM ?_
        ·first | exact eN | refine eM ?_
        ·refine rL [0,1,2,3,4,10,11,12,13,14,15,16,17,18,19,20,25,32,39,56,75,80,97,125] hc ?_ ?_
         ·trivial
         ·repeat' (first | exact trivial | refine eS rfl ?_ | refine ev_out_inv ?_ | refine rX [0,1,2,3,4,10,11,12,13,14,15,16,17,18,19,20,25,32,39,56,75,80,97,125] hc ?_ ?_)
          refine rC (fun hcond=>?_) (fun hcond=>?_)
          ·exact absurd hcond (by decide)
          ·repeat' (first | exact trivial | refine eS rfl ?_ | refine ev_out_inv ?_ | refine rX [0,1,2,3,4,10,11,12,13,14,15,16,17,18,19,20,25,32,39,56,75,80,97,125] hc ?_ ?_)
           refine rC (fun hcond=>?_) (fun hcond=>?_)
           ·repeat' (first | exact trivial | refine eS rfl ?_ | refine ev_out_inv ?_ | refine rX [0,1,2,3,4,10,11,12,13,14,15,16,17,18,19,20,25,32,39,56,75,80,97,125] hc ?_ ?_)
            refine cP 4 hc ?_ ?_
            ·trivial
            ·refine rM hc (partial_ok l hs (by omega) (by omega)) [(1000000,.nm 1000000)] [] ?_ ?_ ?_
             ·first | exact eN | refine eM ?_
             ·first | exact eN | refine eM ?_
             ·rintro _ _ ⟨rfl,rfl⟩
              refine ⟨[(1000000,.nm 1000000)],.p .bool true,[(1000000,.arr 78 T78 l)],rfl,rfl,?_,?_,rfl,rfl,evL_end ?_⟩
              ·first | exact eN | refine eM ?_
              ·first | exact eN | refine eM ?_
              ·repeat' (first | exact trivial | refine eS rfl ?_ | refine ev_out_inv ?_ | refine rX [0,1,2,3,4,10,11,12,13,14,15,16,17,18,19,20,25,32,39,56,75,80,97,125] hc ?_ ?_)
               refine rC (fun hcond=>?_) (fun hcond=>?_)
               ·repeat' (first | exact trivial | refine eS rfl ?_ | refine ev_out_inv ?_ | refine rX [0,1,2,3,4,10,11,12,13,14,15,16,17,18,19,20,25,32,39,56,75,80,97,125] hc ?_ ?_)
                exact ev_finM hc [] rfl (.inl rfl) (.raw (.tuple #[])) rfl ⟨rfl,rfl⟩
               ·cases hcond
           ·cases hcond
end
/- Functions of Go's library under graph.canonical: Values, AppendSeq, Collect, SortFunc, SortedFunc, of what is sorted. -/
section
theorem loop_eta {L:Go.Loop} (h1:L.state=.ready) (h2:L.pending=none):{ { L with state:=.busy } with state:=.ready,pending:=none }=L:=by
 cases L;simp_all
theorem values_ok (l:List (Int×Int)):CallM Try.prog 112 [.p T60 l] [] [] (fun res objs'=>res=.clo 125 [1]∧objs'=[(1,.box 60 false [.p T60 l])]):=by
 refine fnM_ok Try.func112 (by kernel_rfl) rfl Try.ntmps112 (by simp only [List.length_cons,List.length_nil];omega) (by kernel_rfl) rfl rfl (tyTab_ok []) fns_nil ?_
 intro w0 K O0 ρ0 hc hok1 hok2
 simp only [argEnv]
 repeat' (first | exact trivial | refine eS rfl ?_ | refine ev_out_inv ?_ | refine rX [0,1,2] hc ?_ ?_ | (refine rC (fun hcond=>?_) (fun hcond=>?_)<;>try (cases hcond;done)))
 exact ev_finM hc [.tmp 2] rfl (.inl rfl) (.clo 125 [1]) eT ⟨rfl,rfl⟩
def seqObjs (l:List (Int×Int)) (L:Go.Loop) (tm:Array Value) (i:Nat):List (Nat×Obj):=[(1,.box 60 false [.p T60 l]),(101,.loop L),(102,.frame tm [(2,.bp 2 [] 0),(6,.clo 125 [1])]),(2,.box 60 false [.sr 7 T78 0 i]),(7,.arr 78 T78 (l.take i))]
theorem values1_ok (l:List (Int×Int)) (hl:l.length≤100000) (L:Go.Loop) (tm:Array Value) (hY:∀ i,i < l.length→CallY Try.prog 101 [.p T78 (l.getD i (0,0))] (seqObjs l L tm i) [1,101,102,2] (fun res objs'=>res=.p .bool true∧objs'=seqObjs l L tm (i + 1))) :
  CallM Try.prog 125 [.yl 101,.bp 1 [] 0] (seqObjs l L tm 0) [1,101,102,2] (fun res objs'=>res=.raw (.tuple #[])∧objs'=seqObjs l L tm l.length):=by
 refine fnM_ok Try.func125 (by kernel_rfl) rfl Try.ntmps125 (by simp only [List.length_cons,List.length_nil];omega) (by kernel_rfl) rfl rfl (tyTab_ok []) fns_nil ?_
 intro w0 K O0 ρ0 hc hok1 hok2
 simp only [argEnv,seqObjs]
 repeat' (first | exact trivial | refine eS rfl ?_ | refine ev_out_inv ?_ | refine rX [0,1,4,5,6,7,8,14] hc ?_ ?_ | (refine rC (fun hcond=>?_) (fun hcond=>?_)<;>try (cases hcond;done)))
 refine ev_loop (ι:={i:Nat // i≤l.length}) (fun i=>⟨[(0,.yl 101),(1,.bp 1 [] 0),(5,.p T60 l),(6,.p (.int .i64) (l.length:Int)),(7,.p (.int .i64) (i.1:Int))],seqObjs l L tm i.1⟩) (fun i=>l.length - i.1) ⟨0,by omega⟩ (ent_match [(1,.nm 1),(101,.nm 101),(102,.nm 102),(2,.nm 2),(7,.nm 7)] rfl rfl ?_ ?_) (fun i=>?_)
 ·simp only [seqObjs]
  first | exact eN | refine eM ?_
 ·first | exact eN | refine eM ?_
 ·obtain ⟨i,hi⟩:=i
  simp only [seqObjs]
  repeat' (first | exact trivial | refine eS rfl ?_ | refine ev_out_inv ?_ | refine rX [0,1,4,5,6,7,8,14] hc ?_ ?_ | (refine rC (fun hcond=>?_) (fun hcond=>?_)<;>try (cases hcond;done)))
  ·exact eV
  ·have hil:i < l.length:=by exact eV
   refine cP 2 hc ?_ ?_
   ·trivial
   ·refine rY 101 101 hc (hY i hil) [(1,.nm 1),(101,.nm 101),(102,.nm 102),(2,.nm 2),(7,.nm 7)] [7] ?_ ?_ ?_
    ·first | exact eN | refine eM ?_
    ·simp only [seqObjs]
     first | exact eN | refine eM ?_
    ·rintro _ _ ⟨rfl,rfl⟩
     refine ⟨[(1,.nm 1),(101,.nm 101),(102,.nm 102),(2,.nm 2),(7,.nm 7)],.p .bool true,seqObjs l L tm (i + 1),rfl,rfl,?_,?_,rfl,rfl,?_⟩
     ·simp only [seqObjs]
      first | exact eN | refine eM ?_
     ·first | exact eN | refine eM ?_
     ·simp only [seqObjs]
      refine evLp_all [0,1,5,6,7,14] hc (by simp only [go_sem,Nat.reduceEqDiff,reduceCtorEq,Nat.reduceAdd,Nat.reduceSub,Nat.reduceMul,Nat.reduceLeDiff,Nat.reduceLT,Int.reduceLE,Int.reduceToNat,Int.reduceNeg,↓reduceIte];rfl) ?_ ?_
      ·trivial
      ·repeat' (first | exact trivial | refine eS rfl ?_ | refine ev_out_inv ?_ | refine rX [0,1,4,5,6,7,8,14] hc ?_ ?_ | (refine rC (fun hcond=>?_) (fun hcond=>?_)<;>try (cases hcond;done)))
       ·exact eV
       ·refine ⟨⟨i + 1,by omega⟩,by simp only;omega,ent_match [(1,.nm 1),(101,.nm 101),(102,.nm 102),(2,.nm 2),(7,.nm 7)] rfl rfl ?_ ?_⟩
        ·simp only [seqObjs]
         first | exact eN | refine eM ?_
        ·first | exact eN | refine eM ?_
  ·have hil:i=l.length:=by exact eV
   subst hil
   refine ev_finM hc [] rfl (.inr rfl) (.raw (.tuple #[])) rfl ⟨rfl,?_⟩
   simp only [seqObjs,List.take_length]
theorem appendSeq_ok (l:List (Int×Int)) (hl:l.length≤100000):CallM Try.prog 128 [.raw (.slice none 0 0),.clo 125 [1]] [(1,.box 60 false [.p T60 l])] [] (fun res objs'=>res=.sr 7 T78 0 l.length∧objs'=[(7,.arr 78 T78 l)]):=by
 refine fnMR_ok Try.func128 (by kernel_rfl) rfl Try.ntmps128 (by simp only [List.length_cons,List.length_nil];omega) (by kernel_rfl) rfl rfl (tyTab_ok []) fns_nil ?_
 intro w0 K O0 ρ0 hc hok1 hok2
 simp only [argEnv]
 repeat' (first | exact trivial | refine eS rfl ?_ | refine ev_out_inv ?_ | refine rX [0,1,2,4,5,6,7] hc ?_ ?_ | (refine rC (fun hcond=>?_) (fun hcond=>?_)<;>try (cases hcond;done)))
 refine ev_range hc rfl rfl (by simp only [go_sem,Nat.reduceEqDiff,reduceCtorEq,Nat.reduceAdd,Nat.reduceSub,Nat.reduceMul,Nat.reduceLeDiff,Nat.reduceLT,Int.reduceLE,Int.reduceToNat,Int.reduceNeg,↓reduceIte];rfl) 101 103 102 rfl rfl rfl rfl ?_
 intro L tm hL1 hL2 hL3 hL4 hL5 hL6 htm
 refine ⟨_,seqObjs l L tm 0,[1,101,102,2],_,[(1,.nm 1),(101,.nm 101),(102,.nm 102),(2,.nm 2),(7,.nil)],[],values1_ok l hl L tm ?_,rfl,rfl,?_,?_,rfl,?_⟩
 ·intro i hi
  refine callY_ok (fr:=102) rfl rfl hL1 hL4 hL5 hL6 hL3 htm rfl (by kernel_rfl) (by simp) rfl rfl (by kernel_rfl) (by kernel_rfl) (tyTab_ok []) fns_nil ?_
  intro w1 K1 O1 ρ1 lb hc hok3 hok4 hb
  simp only [seqObjs,parEnv]
  repeat' (first | exact trivial | refine eS rfl ?_ | refine ev_out_inv ?_ | refine rX [0,1,2,4,5,6,7] hc ?_ ?_ | (refine rC (fun hcond=>?_) (fun hcond=>?_)<;>try (cases hcond;done)))
  refine ⟨rfl,?_⟩
  repeat' (first | exact trivial | refine eS rfl ?_ | refine ev_out_inv ?_ | refine rX [0,1,2,4,5,6,7] hc ?_ ?_ | (refine rC (fun hcond=>?_) (fun hcond=>?_)<;>try (cases hcond;done)))
  ·simp only [maxN];omega
  ·have e:List.take i (List.take i l)++[((l.getD i (0,0)).1,(l.getD i (0,0)).2)]=l.take (i + 1):=by
    rw [take_snoc l (0,0) hi,List.take_of_length_le (Nat.le_of_eq (by rw [List.length_take];omega):(l.take i).length≤i)]
   refine Ev.ent (σ':=⟨[],[(1,.box 60 false [.p T60 l]),(101,.loop { L with state:=.busy }),(102,.frame tm [(2,.bp 2 [] 0),(6,.clo 125 [1])]),(2,.box 60 false [.sr 7 T78 0 (i + 1)]),(7,.arr 78 T78 (l.take (i + 1)))]⟩) ?_ (ent_match [(1,.nm 1),(101,.nm 101),(102,.nm 102),(2,.nm 2),(7,.nm 7)] rfl rfl ?_ ?_)
   ·refine ev_roundN hc (yn:=101) rfl rfl (by simp) hb ⟨rfl,?_⟩
    simp only [seqObjs,go_sem,Nat.reduceEqDiff,reduceCtorEq,Nat.reduceAdd,Nat.reduceSub,Nat.reduceMul,Nat.reduceLeDiff,Nat.reduceLT,Int.reduceLE,Int.reduceToNat,Int.reduceNeg,↓reduceIte,loop_eta hL1 hL2]
   ·first | exact eN | refine eM ?_
    exact e
   ·first | exact eN | refine eM ?_
 ·simp only [rangeSt]
  first | exact eN | refine eM ?_
 ·simp only [rangeSt,seqObjs]
  first | exact eN | refine eM ?_
 ·rintro _ _ ⟨rfl,rfl⟩
  refine ⟨[(1,.nm 1),(101,.nm 101),(102,.nm 102),(2,.nm 2),(7,.nm 7)],seqObjs l L tm l.length,L,rfl,rfl,?_,rfl,rfl,rfl,by rw [hL1];rfl,?_⟩
  ·simp only [seqObjs]
   first | exact eN | refine eM ?_
  ·intro b
   rw [hL2]
   simp only [EvJ,seqObjs,rangeSt,go_sem,Nat.reduceEqDiff,reduceCtorEq,Nat.reduceAdd,Nat.reduceSub,Nat.reduceMul,Nat.reduceLeDiff,Nat.reduceLT,Int.reduceLE,Int.reduceToNat,Int.reduceNeg,↓reduceIte]
   replace hc:=marked_ok (dn:=103) (b:=b) hc
   repeat' (first | exact trivial | refine eS rfl ?_ | refine ev_out_inv ?_ | refine rX [0,1,2,4,5,6,7] hc ?_ ?_ | (refine rC (fun hcond=>?_) (fun hcond=>?_)<;>try (cases hcond;done)))
   refine Ev.ent (σ':=⟨[(4,.sr 7 T78 0 l.length)],[(7,.arr 78 T78 l),(103,.dfr)]⟩) ?_ (ent_match [(7,.nm 7),(103,.nm 103)] rfl rfl ?_ ?_)
   ·exact ev_finMR hc [.tmp 4] rfl (.inl rfl) rfl rfl (.sr 7 T78 0 l.length) eT ⟨rfl,by simp only [go_sem,Nat.reduceEqDiff,reduceCtorEq,Nat.reduceAdd,Nat.reduceSub,Nat.reduceMul,Nat.reduceLeDiff,Nat.reduceLT,Int.reduceLE,Int.reduceToNat,Int.reduceNeg,↓reduceIte]⟩
   ·first | exact eN | refine eM ?_
   ·first | exact eN | refine eM ?_
theorem collect_ok (l:List (Int×Int)) (hl:l.length≤100000):CallM Try.prog 123 [.clo 125 [1]] [(1,.box 60 false [.p T60 l])] [] (fun res objs'=>res=.sr 7 T78 0 l.length∧objs'=[(7,.arr 78 T78 l)]):=by
 refine fnM_ok Try.func123 (by kernel_rfl) rfl Try.ntmps123 (by simp only [List.length_cons,List.length_nil];omega) (by kernel_rfl) rfl rfl (tyTab_ok []) fns_nil ?_
 intro w0 K O0 ρ0 hc hok1 hok2
 simp only [argEnv]
 repeat' (first | exact trivial | refine eS rfl ?_ | refine ev_out_inv ?_ | refine rX [0,2] hc ?_ ?_ | (refine rC (fun hcond=>?_) (fun hcond=>?_)<;>try (cases hcond;done)))
 refine cP 1 hc ?_ ?_
 ·trivial
 ·refine rM hc (appendSeq_ok l hl) [(1,.nm 1)] [1] ?_ ?_ ?_
  ·first | exact eN | refine eM ?_
  ·first | exact eN | refine eM ?_
  ·rintro _ _ ⟨rfl,rfl⟩
   refine ⟨[(7,.nm 7)],.sr 7 T78 0 l.length,[(7,.arr 78 T78 l)],rfl,rfl,?_,?_,rfl,rfl,?_⟩
   ·first | exact eN | refine eM ?_
   ·first | exact eN | refine eM ?_
   ·refine evLp_all [2] hc (by simp only [go_sem,Nat.reduceEqDiff,reduceCtorEq,Nat.reduceAdd,Nat.reduceSub,Nat.reduceMul,Nat.reduceLeDiff,Nat.reduceLT,Int.reduceLE,Int.reduceToNat,Int.reduceNeg,↓reduceIte];rfl) ?_ ?_
    ·trivial
    ·repeat' (first | exact trivial | refine eS rfl ?_ | refine ev_out_inv ?_ | refine rX [0,2] hc ?_ ?_ | (refine rC (fun hcond=>?_) (fun hcond=>?_)<;>try (cases hcond;done)))
     exact ev_finM hc [.tmp 2] rfl (.inl rfl) (.sr 7 T78 0 l.length) eT ⟨rfl,rfl⟩
theorem len64_ok (x:Int) (h0:0≤x) (h1:x < 256):CallM Try.prog 143 [.p (.int .u64) x] [] [] (fun res objs'=>(∃ n:Int,res=.p T3 n∧(13≤x→n≠0))∧objs'=[]):=by
 refine fnM_ok Try.func143 (by kernel_rfl) rfl Try.ntmps143 (by simp only [List.length_cons,List.length_nil];omega) (by kernel_rfl) rfl rfl (tyTab_ok []) fns_nil ?_
 intro w0 K O0 ρ0 hc hok1 hok2
 simp only [argEnv]
 repeat' (first | exact trivial | refine eS rfl ?_ | refine ev_out_inv ?_ | refine rX [0,2,4,8,14] hc ?_ ?_ | (refine rC (fun hcond=>?_) (fun hcond=>?_)<;>try (cases hcond;done)))
 all_goals first | (exfalso;omega) | skip
 refine evp_regionP [0,2] hc rfl (by simp only [go_sem,Nat.reduceEqDiff,reduceCtorEq,Nat.reduceAdd,Nat.reduceSub,Nat.reduceMul,Nat.reduceLeDiff,Nat.reduceLT,Int.reduceLE,Int.reduceToNat,Int.reduceNeg,↓reduceIte,ByteArray.size,List.size_toArray,maxN];rfl) ?_ ?_
 ·have hu:∀ u:UInt8,((u.toNat:Nat):Int)≤255:=fun u=>by have:=u.toNat_lt;omega
  refine ⟨⟨h0,by omega⟩,⟨h0,?_⟩,⟨?_,?_⟩,?_,?_⟩
  ·have h2:x < ((256:Nat):Int):=h1
   exact h2
  ·exact Int.le_trans (by decide) (Int.natCast_nonneg _)
  ·exact Int.le_trans (hu _) (by decide)
  ·rw [Int.zero_add];exact Int.le_trans (by decide) (Int.natCast_nonneg _)
  ·rw [Int.zero_add];exact Int.le_trans (hu _) (by decide)
 ·repeat' (first | exact trivial | refine eS rfl ?_ | refine ev_out_inv ?_ | refine rX [0,2,4,8,14] hc ?_ ?_ | (refine rC (fun hcond=>?_) (fun hcond=>?_)<;>try (cases hcond;done)))
  refine ev_finM hc [.tmp 2] rfl (.inl rfl) (.p T3 _) (by simp only [retAV,ret1,retAVs,notAT,resV,resLoad,pureOf,go_sem,Nat.reduceEqDiff,reduceCtorEq,Nat.reduceAdd,Nat.reduceSub,Nat.reduceMul,Nat.reduceLeDiff,Nat.reduceLT,Int.reduceLE,Int.reduceToNat,Int.reduceNeg,↓reduceIte];rfl) ⟨⟨_,rfl,fun h13=>?_⟩,rfl⟩
  rw [Int.zero_add]
  intro e
  replace e:=Int.ofNat.inj e
  have hk2:x.toNat < 256:=by omega
  have hk3:13≤x.toNat:=by omega
  generalize x.toNat=k at *
  clear hcond
  exact absurd e (by
   clear e
   revert hk3
   revert hk2
   revert k
   decide)
theorem len_ok (x:Int) (h0:0≤x) (h1:x < 256):CallM Try.prog 130 [.p (.int .u64) x] [] [] (fun res objs'=>(∃ n:Int,res=.p T3 n∧(13≤x→n≠0))∧objs'=[]):=by
 refine fnM_ok Try.func130 (by kernel_rfl) rfl Try.ntmps130 (by simp only [List.length_cons,List.length_nil];omega) (by kernel_rfl) rfl rfl (tyTab_ok []) fns_nil ?_
 intro w0 K O0 ρ0 hc hok1 hok2
 simp only [argEnv]
 repeat' (first | exact trivial | refine eS rfl ?_ | refine ev_out_inv ?_ | refine rX [0,2] hc ?_ ?_ | (refine rC (fun hcond=>?_) (fun hcond=>?_)<;>try (cases hcond;done)))
 refine cP 1 hc ?_ ?_
 ·trivial
 ·refine rM hc (len64_ok x h0 h1) [] [] ?_ ?_ ?_
  ·first | exact eN | refine eM ?_
  ·first | exact eN | refine eM ?_
  ·rintro _ _ ⟨⟨n,rfl,hnz⟩,rfl⟩
   refine ⟨[],.p T3 n,[],rfl,rfl,?_,?_,rfl,rfl,?_⟩
   ·first | exact eN | refine eM ?_
   ·first | exact eN | refine eM ?_
   ·refine evLp_all [2] hc (by simp only [go_sem,Nat.reduceEqDiff,reduceCtorEq,Nat.reduceAdd,Nat.reduceSub,Nat.reduceMul,Nat.reduceLeDiff,Nat.reduceLT,Int.reduceLE,Int.reduceToNat,Int.reduceNeg,↓reduceIte];rfl) ?_ ?_
    ·trivial
    ·repeat' (first | exact trivial | refine eS rfl ?_ | refine ev_out_inv ?_ | refine rX [0,2] hc ?_ ?_ | (refine rC (fun hcond=>?_) (fun hcond=>?_)<;>try (cases hcond;done)))
     exact ev_finM hc [.tmp 2] rfl (.inl rfl) (.p T3 n) eT ⟨⟨_,rfl,hnz⟩,rfl⟩
theorem sortFunc_ok (l:List (Int×Int)) (hl:l.length≤200) (hs:SrtA l):CallM Try.prog 124 [.sr 1000000 T78 0 l.length,.fn 113] [(1000000,.arr 78 T78 l)] [1000000] (fun res objs'=>res=.raw (.tuple #[])∧objs'=[(1000000,.arr 78 T78 l)]):=by
 refine fnM_ok Try.func124 (by kernel_rfl) rfl Try.ntmps124 (by simp only [List.length_cons,List.length_nil];omega) (by kernel_rfl) rfl rfl (tyTab_ok []) fns_nil ?_
 intro w0 K O0 ρ0 hc hok1 hok2
 simp only [argEnv]
 repeat' (first | exact trivial | refine eS rfl ?_ | refine ev_out_inv ?_ | refine rX [0,1,4] hc ?_ ?_ | (refine rC (fun hcond=>?_) (fun hcond=>?_)<;>try (cases hcond;done)))
 refine cP 4 hc ?_ ?_
 ·exact eV
 ·refine rM hc (len_ok (l.length:Int) (by omega) (by omega)) [] [] ?_ ?_ ?_
  ·first | exact eN | refine eM ?_
  ·first | exact eN | refine eM ?_
  ·rintro _ _ ⟨⟨n,rfl,hnz⟩,rfl⟩
   refine ⟨[],.p T3 n,[],rfl,rfl,?_,?_,rfl,rfl,?_⟩
   ·first | exact eN | refine eM ?_
   ·first | exact eN | refine eM ?_
   ·refine evL_seq hc 1 (by simp only [go_sem,Nat.reduceEqDiff,reduceCtorEq,Nat.reduceAdd,Nat.reduceSub,Nat.reduceMul,Nat.reduceLeDiff,Nat.reduceLT,Int.reduceLE,Int.reduceToNat,Int.reduceNeg,↓reduceIte];rfl) ?_ ?_
    ·trivial
    ·refine rM hc (pdq_ok l n hl (fun h=>hnz (by omega)) hs) [(1000000,.nm 1000000)] [] ?_ ?_ ?_
     ·first | exact eN | refine eM ?_
     ·first | exact eN | refine eM ?_
     ·rintro _ _ ⟨rfl,rfl⟩
      refine ⟨[(1000000,.nm 1000000)],.raw (.tuple #[]),[(1000000,.arr 78 T78 l)],rfl,rfl,?_,?_,rfl,rfl,evL_end ?_⟩
      ·first | exact eN | refine eM ?_
      ·first | exact eN | refine eM ?_
      ·repeat' (first | exact trivial | refine eS rfl ?_ | refine ev_out_inv ?_ | refine rX [0,1,4] hc ?_ ?_ | (refine rC (fun hcond=>?_) (fun hcond=>?_)<;>try (cases hcond;done)))
       exact ev_finM hc [] rfl (.inr rfl) (.raw (.tuple #[])) rfl ⟨rfl,rfl⟩
theorem sortedFunc_ok (l:List (Int×Int)) (hl:l.length≤200) (hs:SrtA l):CallM Try.prog 111 [.clo 125 [1],.fn 113] [(1,.box 60 false [.p T60 l])] [] (fun res objs'=>res=.sr 7 T78 0 l.length∧objs'=[(7,.arr 78 T78 l)]):=by
 refine fnM_ok Try.func111 (by kernel_rfl) rfl Try.ntmps111 (by simp only [List.length_cons,List.length_nil];omega) (by kernel_rfl) rfl rfl (tyTab_ok []) fns_nil ?_
 intro w0 K O0 ρ0 hc hok1 hok2
 simp only [argEnv]
 repeat' (first | exact trivial | refine eS rfl ?_ | refine ev_out_inv ?_ | refine rX [0,1,4,5] hc ?_ ?_ | (refine rC (fun hcond=>?_) (fun hcond=>?_)<;>try (cases hcond;done)))
 refine cP 1 hc ?_ ?_
 ·trivial
 ·refine rM hc (collect_ok l (by omega)) [(1,.nm 1)] [1] ?_ ?_ ?_
  ·first | exact eN | refine eM ?_
  ·first | exact eN | refine eM ?_
  ·rintro _ _ ⟨rfl,rfl⟩
   refine ⟨[(1000000,.nm 7)],.sr 1000000 T78 0 l.length,[(1000000,.arr 78 T78 l)],rfl,rfl,?_,?_,rfl,rfl,?_⟩
   ·first | exact eN | refine eM ?_
   ·first | exact eN | refine eM ?_
   ·refine evLp_all [1,5] hc (by simp only [go_sem,Nat.reduceEqDiff,reduceCtorEq,Nat.reduceAdd,Nat.reduceSub,Nat.reduceMul,Nat.reduceLeDiff,Nat.reduceLT,Int.reduceLE,Int.reduceToNat,Int.reduceNeg,↓reduceIte];rfl) ?_ ?_
    ·trivial
    ·repeat' (first | exact trivial | refine eS rfl ?_ | refine ev_out_inv ?_ | refine rX [0,1,4,5] hc ?_ ?_ | (refine rC (fun hcond=>?_) (fun hcond=>?_)<;>try (cases hcond;done)))
     refine cP 2 hc ?_ ?_
     ·trivial
     ·refine rM hc (sortFunc_ok l hl hs) [(1000000,.nm 1000000)] [] ?_ ?_ ?_
      ·first | exact eN | refine eM ?_
      ·first | exact eN | refine eM ?_
      ·rintro _ _ ⟨rfl,rfl⟩
       refine ⟨[(1000000,.nm 1000000)],.raw (.tuple #[]),[(1000000,.arr 78 T78 l)],rfl,rfl,?_,?_,rfl,rfl,evL_end ?_⟩
       ·first | exact eN | refine eM ?_
       ·first | exact eN | refine eM ?_
       ·repeat' (first | exact trivial | refine eS rfl ?_ | refine ev_out_inv ?_ | refine rX [0,1,4,5] hc ?_ ?_ | (refine rC (fun hcond=>?_) (fun hcond=>?_)<;>try (cases hcond;done)))
        refine Ev.ent (σ':=⟨[(4,.sr 7 T78 0 l.length)],[(7,.arr 78 T78 l)]⟩) ?_ (ent_match [(7,.nm 1000000)] rfl rfl ?_ ?_)
        ·exact ev_finM hc [.tmp 4] rfl (.inl rfl) (.sr 7 T78 0 l.length) eT ⟨rfl,rfl⟩
        ·first | exact eN | refine eM ?_
        ·first | exact eN | refine eM ?_
end
/- Functions of graph: canonical's search. -/
section
def vObjs (f:List GNode) (o:List Int):List (Nat×Obj):=[(1,.box 41 false [.sr 5 T3 0 o.length]),(2,.box 171 false [.mp 6]),(3,.box 25 true [.p T23 f]),(4,.box 150 false [.clo 110 [1,2,3,4]]),(5,.arr 3 T3 o),(6,.mapo T3 T3 (mOf o))]
theorem visitM_ok (f:List GNode) (hf:GoodF f) (hs:SrtF f):∀ (k:Nat) (o:List Int) (n:Int),DOk f o→0≤n→n < f.length→n ∉ o→f.length - o.length≤k →
  CallM Try.prog 110 [.p T3 n,.bp 1 [] 0,.bp 2 [] 0,.bp 3 [] 0,.bp 4 [] 0] (vObjs f o) [1,2,3,4,6] (fun res objs'=>res=.raw (.tuple #[])∧objs'=vObjs f (dfs f k o n)):=by
 intro k
 induction k with
 | zero =>
  intro o n h0 h1 h2 h3 h4
  have:=(h0.snoc h1 h2 h3).len
  simp only [List.length_append,List.length_singleton] at this
  omega
 | succ k ih =>
  intro o n hd hn0 hn1 hno hk
  have hd1:=hd.snoc hn0 hn1 hno
  have hlen:=hd1.len
  simp only [List.length_append,List.length_singleton] at hlen
  have hfl:=hf.1
  refine fnM_ok Try.func110 (by kernel_rfl) rfl Try.ntmps110 (by simp only [List.length_cons,List.length_nil];omega) (by kernel_rfl) rfl rfl (tyTab_ok []) fns_nil ?_
  intro w0 K O0 ρ0 hc hok1 hok2
  simp only [vObjs,argEnv]
  repeat' (first | exact trivial | refine eS rfl ?_ | refine ev_out_inv ?_ | refine rX [0,1,2,3,4,7,9,25,26,27,28,39] hc ?_ ?_ | (refine rC (fun hcond=>?_) (fun hcond=>?_)<;>try (cases hcond;done)))
  ·simp only [maxN];omega
  ·rw [mput_mOf hno]
   obtain ⟨hsrt,hl12⟩:=srt_of hs n
   have harcs:=fun a (ha:a∈(f.getD n.toNat (0,[])).2)=>arcs_in' hf ha
   have hdfs:dfs f (k + 1) o n=(f.getD n.toNat (0,[])).2.foldl (stepD f k) (o++[n]):=dfs_succ f k o n
   refine cP 6 hc ?_ ?_
   ·exact ⟨hn0,hn1⟩
   ·generalize (f.getD n.toNat (0,[])).2=L at *
    refine rM hc (values_ok L) [] [] ?_ ?_ ?_
    ·first | exact eN | refine eM ?_
    ·first | exact eN | refine eM ?_
    ·rintro _ _ ⟨rfl,rfl⟩
     refine ⟨[(50,.nm 1)],.clo 125 [50],[(50,.box 60 false [.p T60 L])],rfl,rfl,?_,?_,rfl,rfl,?_⟩
     ·first | exact eN | refine eM ?_
     ·first | exact eN | refine eM ?_
     ·refine rM hc (sortedFunc_ok L hl12 hsrt) [(1,.nm 50)] [50] ?_ ?_ ?_
      ·first | exact eN | refine eM ?_
      ·first | exact eN | refine eM ?_
      ·rintro _ _ ⟨rfl,rfl⟩
       refine ⟨[(51,.nm 7)],.sr 51 T78 0 L.length,[(51,.arr 78 T78 L)],rfl,rfl,?_,?_,rfl,rfl,?_⟩
       ·first | exact eN | refine eM ?_
       ·first | exact eN | refine eM ?_
       ·refine evLp_all [0,1,2,3,4,25,26,27] hc (by simp only [go_sem,Nat.reduceEqDiff,reduceCtorEq,Nat.reduceAdd,Nat.reduceSub,Nat.reduceMul,Nat.reduceLeDiff,Nat.reduceLT,Int.reduceLE,Int.reduceToNat,Int.reduceNeg,↓reduceIte];rfl) ?_ ?_
        ·trivial
        ·have hs1:∀ i,DOk f ((L.take i).foldl (stepD f k) (o++[n]))∧o++[n] <+: (L.take i).foldl (stepD f k) (o++[n]):=fun i=>foldD_ok (dfs_ok hf k) _ _ (fun a ha=>harcs a (List.mem_of_mem_take ha)) hd1
         generalize ho1:o++[n]=o1 at *
         have hol:o1.length=o.length + 1:=by rw [← ho1];simp
         rw [← hol]
         repeat' (first | exact trivial | refine eS rfl ?_ | refine ev_out_inv ?_ | refine rX [0,1,2,3,4,7,9,25,26,27,28,39] hc ?_ ?_ | (refine rC (fun hcond=>?_) (fun hcond=>?_)<;>try (cases hcond;done)))
         refine ev_loop (ι:={i:Nat // i≤L.length}) (fun i=>⟨[(0,.p T3 n),(1,.bp 1 [] 0),(2,.bp 2 [] 0),(3,.bp 3 [] 0),(4,.bp 4 [] 0),(25,.p T60 L),(26,.p (.int .i64) (L.length:Int)),(27,.p (.int .i64) (i.1:Int))],vObjs f ((L.take i.1).foldl (stepD f k) o1)⟩) (fun i=>L.length - i.1) ⟨0,by omega⟩ (frzT [51] (ent_match [(1,.nm 1),(2,.nm 2),(3,.nm 3),(4,.nm 4),(5,.nm 5),(6,.nm 6)] rfl rfl ?_ ?_)) (fun i=>?_)
         ·simp only [vObjs,List.take_zero,List.foldl_nil]
          first | exact eN | refine eM ?_
         ·first | exact eN | refine eM ?_
         ·obtain ⟨i,hi⟩:=i
          obtain ⟨hdi,hpi⟩:=hs1 i
          have hnext:=fun (h:i < L.length)=>fold_take (stepD f k) L (0,0) o1 h
          have hlei:=hpi.length_le
          generalize hoi:(L.take i).foldl (stepD f k) o1=oi at hdi hpi hnext hlei
          simp only [vObjs]
          repeat' (first | exact trivial | refine eS rfl ?_ | refine ev_out_inv ?_ | refine rX [0,1,2,3,4,7,9,25,26,27,28,39] hc ?_ ?_ | (refine rC (fun hcond=>?_) (fun hcond=>?_)<;>try (cases hcond;done)))
          ·exact eV
          ·have hiL:i < L.length:=by exact eV
           have hr:=harcs _ (mem_of_take_succ L (0,0) hiL)
           have hno2:(L.getD i (0,0)).2 ∉ oi:=by rw [isSome_mOf] at hcond;simpa using hcond
           refine cP 3 hc ?_ ?_
           ·trivial
           ·refine rM hc (ih oi (L.getD i (0,0)).2 hdi hr.1 hr.2 hno2 (by omega)) [(1,.nm 1),(2,.nm 2),(3,.nm 3),(4,.nm 4),(5,.nm 5),(6,.nm 6)] [5] ?_ ?_ ?_
            ·first | exact eN | refine eM ?_
            ·simp only [vObjs]
             first | exact eN | refine eM ?_
            ·rintro _ _ ⟨rfl,rfl⟩
             refine ⟨[(1,.nm 1),(2,.nm 2),(3,.nm 3),(4,.nm 4),(5,.nm 5),(6,.nm 6)],.raw (.tuple #[]),vObjs f (dfs f k oi (L.getD i (0,0)).2),rfl,rfl,?_,?_,rfl,rfl,evL_end ?_⟩
             ·simp only [vObjs]
              first | exact eN | refine eM ?_
             ·first | exact eN | refine eM ?_
             ·simp only [vObjs]
              repeat' (first | exact trivial | refine eS rfl ?_ | refine ev_out_inv ?_ | refine rX [0,1,2,3,4,7,9,25,26,27,28,39] hc ?_ ?_ | (refine rC (fun hcond=>?_) (fun hcond=>?_)<;>try (cases hcond;done)))
              ·exact eV
              ·have e:stepD f k oi (L.getD i (0,0))=dfs f k oi (L.getD i (0,0)).2:=if_neg hno2
               refine ⟨⟨i + 1,by omega⟩,by simp only;omega,ent_match [(1,.nm 1),(2,.nm 2),(3,.nm 3),(4,.nm 4),(5,.nm 5),(6,.nm 6)] rfl rfl ?_ ?_⟩
               ·simp only [hnext hiL,e]
                first | exact eN | refine eM ?_
               ·first | exact eN | refine eM ?_
          ·exact eV
          ·have hiL:i < L.length:=by exact eV
           have hno2:(L.getD i (0,0)).2∈oi:=by rw [isSome_mOf] at hcond;simpa using hcond
           have e:stepD f k oi (L.getD i (0,0))=oi:=if_pos hno2
           refine ⟨⟨i + 1,by omega⟩,by simp only;omega,ent_match [(1,.nm 1),(2,.nm 2),(3,.nm 3),(4,.nm 4),(5,.nm 5),(6,.nm 6)] rfl rfl ?_ ?_⟩
           ·simp only [hnext hiL,e]
            first | exact eN | refine eM ?_
           ·first | exact eN | refine eM ?_
          ·have hk:L.take i=L:=List.take_of_length_le (by exact eV)
           rw [hk] at hoi
           rw [hdfs,hoi]
           exact ev_finM hc [] rfl (.inr rfl) (.raw (.tuple #[])) rfl ⟨rfl,rfl⟩
end
/- Functions of graph: canonical, Sub. -/
section
def canonicalS:Spec:={ ins:=[T25,T3],pre:=fun (f,n,_)=>GoodF f∧SrtF f∧0≤n∧n < (List.length f:Int),out:=fun (f,n,_)=>[.p T25 (canonicalF f n)] }
attribute [local go_sem] canonicalS
theorem fill_step {α β:Type} (g:α→β) (o:List α) (d:α) (z:β) {i:Nat} (h:i < o.length):((o.take i).map g++List.replicate (o.length - i) z).set i (g (o.getD i d))=(o.take (i + 1)).map g++List.replicate (o.length - (i + 1)) z:=by
 obtain ⟨m,hm⟩:∃ m,o.length - i=m + 1:=⟨o.length - i - 1,by omega⟩
 have hm2:o.length - (i + 1)=m:=by omega
 have hl:((o.take i).map g).length=i:=by rw [List.length_map,List.length_take];omega
 rw [hm,hm2,List.set_append_right _ _ (by omega),hl,Nat.sub_self,List.replicate_succ,List.set_cons_zero,take_snoc o d h,List.map_append]
 simp
theorem canonical_ok:FnOk Try.prog 86 canonicalS:=by
 refine fn_ok Try.func86 (by kernel_rfl) rfl Try.ntmps86 (by decide) (by kernel_rfl) (tyTab_ok []) fns_nil ?_
 rintro w0 O0 ⟨f,root,u⟩ hc - ⟨hf,hs,hr0,hr1⟩
 simp only [canonicalS,entEnv]
 have hfl:=hf.1
 have hd0:DOk f []:=⟨by simp,fun x hx=>by cases hx⟩
 obtain ⟨hdo,hpo⟩:=dfs_ok hf f.length [] root hd0 hr0 hr1 (by simp)
 have hcan:canonicalF f root=(dfs f f.length [] root).map (nodeD f (dfs f f.length [] root)):=rfl
 rw [hcan]
 repeat' (first | exact trivial | refine eS rfl ?_ | refine ev_out_inv ?_ | refine rX [0,1,2,4,5,6,7,8,9,10,11,12,22,23,24,25,38,39,40] hc ?_ ?_ | (refine rC (fun hcond=>?_) (fun hcond=>?_)<;>try (cases hcond;done)))
 refine cP 2 hc ?_ ?_
 ·trivial
 ·refine rM hc (visitM_ok f hf hs (List.length f) [] root hd0 hr0 hr1 (by simp) (by simp)) [(1,.nm 6),(2,.nm 5),(3,.nm 2),(4,.nm 7),(5,.nil),(6,.nm 13)] [] ?_ ?_ ?_
  ·first | exact eN | refine eM ?_
  ·simp only [vObjs]
   first | exact eN | refine eM ?_
   rfl
  ·rintro _ _ ⟨rfl,rfl⟩
   refine ⟨[(6,.nm 1),(5,.nm 2),(2,.nm 3),(7,.nm 4),(101,.nm 5),(13,.nm 6)],.raw (.tuple #[]),[(6,.box 41 false [.sr 101 T3 0 (dfs f (List.length f) [] root).length]),(5,.box 171 false [.mp 13]),(2,.box 25 true [.p T23 f]),(7,.box 150 false [.clo 110 [6,5,2,7]]),(101,.arr 3 T3 (dfs f (List.length f) [] root)),(13,.mapo T3 T3 (mOf (dfs f (List.length f) [] root)))],rfl,rfl,?_,?_,rfl,rfl,evL_end ?_⟩
   ·simp only [vObjs]
    first | exact eN | refine eM ?_
   ·first | exact eN | refine eM ?_
   ·generalize dfs f (List.length f) [] root=o at *
    have hol:=hdo.len
    repeat' (first | exact trivial | refine eS rfl ?_ | refine ev_out_inv ?_ | refine rX [0,1,2,4,5,6,7,8,9,10,11,12,22,23,24,25,38,39,40] hc ?_ ?_ | (refine rC (fun hcond=>?_) (fun hcond=>?_)<;>try (cases hcond;done)))
    ·simp only [maxN];omega
    ·refine ev_loop (ι:={i:Nat // i≤o.length}) (fun i=>⟨[(2,.bp 2 [] 0),(4,.bp 4 [] 0),(5,.bp 5 [] 0),(8,.bp 8 [] 0),(22,.sr 101 T3 0 o.length),(23,.p (.int .i64) (o.length:Int)),(24,.p (.int .i64) (i.1:Int))],[(8,.box 25 true [.sr 20 T62 0 o.length]),(20,.arr 62 T62 ((o.take i.1).map (nodeD f o)++List.replicate (o.length - i.1) (0,[]))),(5,.box 171 false [.mp 13]),(2,.box 25 true [.p T23 f]),(101,.arr 3 T3 o),(13,.mapo T3 T3 (mOf o)),(4,.box 25 true [.raw (.slice none 0 0)])]⟩) (fun i=>o.length - i.1) ⟨0,by omega⟩ (ent_match [(8,.nm 8),(20,.nm 20),(5,.nm 5),(2,.nm 2),(101,.nm 101),(13,.nm 13),(4,.nm 4)] rfl rfl ?_ ?_) (fun i=>?_)
     ·first | exact eN | refine eM ?_
     ·first | exact eN | refine eM ?_
     ·obtain ⟨i,hi⟩:=i
      repeat' (first | exact trivial | refine eS rfl ?_ | refine ev_out_inv ?_ | refine rX [0,1,2,4,5,6,7,8,9,10,11,12,22,23,24,25,38,39,40] hc ?_ ?_ | (refine rC (fun hcond=>?_) (fun hcond=>?_)<;>try (cases hcond;done)))
      ·exact eV
      ·have hio:i < o.length:=by exact eV
       have hn:=hdo.rng _ (mem_of_take_succ o 0 hio)
       have hnode:nodeD f o (o.getD i 0)=((f.getD (o.getD i 0).toNat (0,[])).1,(f.getD (o.getD i 0).toNat (0,[])).2.map (renD o)):=rfl
       obtain ⟨hsrt,hl12⟩:=srt_of hs (o.getD i 0)
       refine cP 6 hc ?_ ?_
       ·exact hn
       ·have hne:List.length f≤100000:=hfl
        generalize hnn:o.getD i 0=n at *
        generalize hfx:f.getD n.toNat (0,[])=x at *
        obtain ⟨xt,L⟩:=x
        simp only at hsrt hl12 hnode
        refine rM hc (values_ok L) [] [] ?_ ?_ ?_
        ·first | exact eN | refine eM ?_
        ·first | exact eN | refine eM ?_
        ·rintro _ _ ⟨rfl,rfl⟩
         refine ⟨[(50,.nm 1)],.clo 125 [50],[(50,.box 60 false [.p T60 L])],rfl,rfl,?_,?_,rfl,rfl,?_⟩
         ·first | exact eN | refine eM ?_
         ·first | exact eN | refine eM ?_
         ·refine rM hc (sortedFunc_ok L hl12 hsrt) [(1,.nm 50)] [50] ?_ ?_ ?_
          ·first | exact eN | refine eM ?_
          ·first | exact eN | refine eM ?_
          ·rintro _ _ ⟨rfl,rfl⟩
           refine ⟨[(51,.nm 7)],.sr 51 T78 0 L.length,[(51,.arr 78 T78 L)],rfl,rfl,?_,?_,rfl,rfl,?_⟩
           ·first | exact eN | refine eM ?_
           ·first | exact eN | refine eM ?_
           ·refine evLp_all [2,4,5,8,9,10,11,22,23,24] hc (by simp only [go_sem,Nat.reduceEqDiff,reduceCtorEq,Nat.reduceAdd,Nat.reduceSub,Nat.reduceMul,Nat.reduceLeDiff,Nat.reduceLT,Int.reduceLE,Int.reduceToNat,Int.reduceNeg,↓reduceIte];rfl) ?_ ?_
            ·trivial
            ·repeat' (first | exact trivial | refine eS rfl ?_ | refine ev_out_inv ?_ | refine rX [0,1,2,4,5,6,7,8,9,10,11,12,22,23,24,25,38,39,40] hc ?_ ?_ | (refine rC (fun hcond=>?_) (fun hcond=>?_)<;>try (cases hcond;done)))
             refine ev_loop (ι:={k:Nat // k≤L.length}) (fun k=>⟨[(2,.bp 2 [] 0),(4,.bp 4 [] 0),(5,.bp 5 [] 0),(8,.bp 8 [] 0),(9,.p (.int .i64) (i:Int)),(10,.p T3 n),(11,.sr 51 T78 0 L.length),(22,.sr 101 T3 0 o.length),(23,.p (.int .i64) (o.length:Int)),(24,.p (.int .i64) (i:Int)),(38,.p (.int .i64) (L.length:Int)),(39,.p (.int .i64) (k.1:Int))],[(51,.arr 78 T78 ((L.take k.1).map (renD o)++L.drop k.1)),(8,.box 25 true [.sr 20 T62 0 o.length]),(20,.arr 62 T62 ((o.take i).map (nodeD f o)++List.replicate (o.length - i) (0,[]))),(5,.box 171 false [.mp 13]),(2,.box 25 true [.p T23 f]),(101,.arr 3 T3 o),(13,.mapo T3 T3 (mOf o)),(4,.box 25 true [.raw (.slice none 0 0)])]⟩) (fun k=>L.length - k.1) ⟨0,by omega⟩ (ent_match [(51,.nm 51),(8,.nm 8),(20,.nm 20),(5,.nm 5),(2,.nm 2),(101,.nm 101),(13,.nm 13),(4,.nm 4)] rfl rfl ?_ ?_) (fun k=>?_)
             ·first | exact eN | refine eM ?_
             ·first | exact eN | refine eM ?_
             ·obtain ⟨k,hk⟩:=k
              repeat' (first | exact trivial | refine eS rfl ?_ | refine ev_out_inv ?_ | refine rX [0,1,2,4,5,6,7,8,9,10,11,12,22,23,24,25,38,39,40] hc ?_ ?_ | (refine rC (fun hcond=>?_) (fun hcond=>?_)<;>try (cases hcond;done)))
              ·exact eV
              ·exact eV
              ·have hkL:k < L.length:=by exact eV
               have e:=map_part (renD o) (fun b=>b) L (0,0) hkL (renD o)
               refine ⟨⟨k + 1,by omega⟩,by simp only;omega,ent_match [(51,.nm 51),(8,.nm 8),(20,.nm 20),(5,.nm 5),(2,.nm 2),(101,.nm 101),(13,.nm 13),(4,.nm 4)] rfl rfl ?_ ?_⟩
               ·first | exact eN | refine eM ?_
                rw [e.2]
                rw [← e.1]
                unfold renD
                rw [← idxZ_eq]
               ·first | exact eN | refine eM ?_
              ·exact ⟨hn,by exact eV⟩
              ·exact eV
              ·have hkL:L.take k=L:=List.take_of_length_le (by exact eV)
               have hdL:L.drop k=[]:=List.drop_eq_nil_of_le (by exact eV)
               refine ⟨⟨i + 1,by omega⟩,by simp only;omega,ent_match [(8,.nm 8),(20,.nm 20),(5,.nm 5),(2,.nm 2),(101,.nm 101),(13,.nm 13),(4,.nm 4)] rfl rfl ?_ ?_⟩
               ·first | exact eN | refine eM ?_
                rw [hkL,hdL,List.append_nil]
                have e:=fill_step (nodeD f o) o 0 (0,[]) hio
                rw [hnn,hnode] at e
                rw [← e,hfx,List.take_of_length_le (by simp:(L.map (renD o)).length≤L.length)]
               ·first | exact eN | refine eM ?_
      ·have hk:o.take i=o:=List.take_of_length_le (by exact eV)
       have hz:o.length - i=0:=by exact eV
       rw [hk,hz]
       exact ev_fin hc [.cell 4 25] rfl (.inl rfl) (by simp) (by simp only [List.replicate_zero,List.append_nil];first | exact eR | refine eRM ?_;exact List.take_of_length_le (by rw [List.length_map];exact eV))
def subS:Spec:=canonicalS
theorem sub_ok:FnOk Try.prog 63 canonicalS:=by
 refine fn_ok Try.func63 (by kernel_rfl) rfl Try.ntmps63 (by decide) (by kernel_rfl) (tyTab_ok [(86,canonicalS)]) (fns_cons canonical_ok fns_nil) ?_
 rintro w0 O0 ⟨f,root,u⟩ hc - hp
 simp only [canonicalS,entEnv]
 repeat' (first | exact trivial | refine eS rfl ?_ | refine ev_out_inv ?_ | refine rX [0,1,2,4] hc ?_ ?_ | (refine rC (fun hcond=>?_) (fun hcond=>?_)<;>try (cases hcond;done)))
 ·exact hp
 ·exact ev_fin hc [.cell 4 25] rfl (.inl rfl) (by simp) (by first | exact eR | refine eRM ?_)
end
/- Functions of restrict: part, at its three closures. -/
section
attribute [local go_sem] subS canonicalS
def partN (acc:Int→Int×Int→Bool) (f:List GNode) (i:Nat):GNode:=((f.getD i (0,[])).1,(f.getD i (0,[])).2.filter (acc (i:Int)))
def partL (acc:Int→Int×Int→Bool) (f:List GNode) (i:Nat):List GNode:=(List.range i).map (partN acc f)
def partF (acc:Int→Int×Int→Bool) (f:List GNode):List GNode:=canonicalF (partL acc f f.length) 0
theorem partL_len (acc:Int→Int×Int→Bool) (f:List GNode) (i:Nat):(partL acc f i).length=i:=by simp [partL]
theorem partL_succ (acc:Int→Int×Int→Bool) (f:List GNode) (i:Nat):partL acc f (i + 1)=partL acc f i++[partN acc f i]:=by simp [partL,List.range_succ]
theorem srtA_iff (l:List (Int×Int)):SrtA l↔l.Pairwise (fun a b=>a.1 < b.1):=by
 constructor
 ·intro h
  rw [List.pairwise_iff_getElem]
  have key:∀ d i,i + d + 1 < l.length→(l.getD i (0,0)).1 < (l.getD (i + d + 1) (0,0)).1:=by
   intro d
   induction d with
   | zero=>intro i hi;exact h i hi
   | succ d ih =>
    intro i hi
    have h1:=ih i (by omega)
    have h2:=h (i + d + 1) (by omega)
    have:i + (d + 1) + 1=i + d + 1 + 1:=by omega
    rw [this]
    omega
  intro i j hi hj hij
  have h1:=key (j - i - 1) i (by omega)
  rw [show i + (j - i - 1) + 1=j by omega] at h1
  simpa [List.getD_eq_getElem?_getD,hi,hj] using h1
 ·intro h i hi
  rw [List.pairwise_iff_getElem] at h
  have:=h i (i + 1) (by omega) hi (by omega)
  simpa [List.getD_eq_getElem?_getD,hi,show i < l.length by omega] using this
theorem srtA_filter {l:List (Int×Int)} (h:SrtA l) (p:Int×Int→Bool):SrtA (l.filter p):=by
 rw [srtA_iff] at h ⊢
 exact h.sublist List.filter_sublist
theorem part_good {f:List GNode} (hf:GoodF f) (hs:SrtF f) (acc:Int→Int×Int→Bool):GoodF (partL acc f f.length)∧SrtF (partL acc f f.length):=by
 have hget:∀ i,i < f.length→f.getD i (0,[])∈f:=fun i hi=>mem_of_take_succ f (0,[]) hi
 refine ⟨⟨by rw [partL_len];exact hf.1,fun x hx=>?_⟩,fun x hx=>?_⟩
 ·obtain ⟨i,hi,rfl⟩:=List.mem_map.1 hx
  have hi:i < f.length:=List.mem_range.1 hi
  obtain ⟨h1,h2⟩:=hf.2 _ (hget i hi)
  rw [partL_len]
  exact ⟨Nat.le_trans (List.length_filter_le _ _) h1,fun a ha=>h2 a (List.mem_filter.1 ha).1⟩
 ·obtain ⟨i,hi,rfl⟩:=List.mem_map.1 hx
  have hi:i < f.length:=List.mem_range.1 hi
  obtain ⟨h1,h2⟩:=hs _ (hget i hi)
  exact ⟨srtA_filter h1 _,Nat.le_trans (List.length_filter_le _ _) h2⟩
theorem filter_snoc (p:Int×Int→Bool) (l:List (Int×Int)) {k:Nat} (h:k < l.length):(l.take (k + 1)).filter p=(l.take k).filter p++(if p (l.getD k (0,0)) then [l.getD k (0,0)] else []):=by
 rw [take_snoc l (0,0) h,List.filter_append]
 congr 1
 rw [List.filter_cons,List.filter_nil]
def accD (l:List (Int×Bool)) (_:Int) (a:Int×Int):Bool:=!((mfind T3 .bool a.1 l).getD false)
theorem dropC_ok (l:List (Int×Bool)) (n:Int) (a:Int×Int):CallM Try.prog 62 [.p T3 n,.p T78 a,.bp 1 [] 0] [(1,.box 123 false [.mp 3]),(3,.mapo T3 .bool l)] [1,3] (fun res objs'=>res=.p .bool (accD l n a)∧objs'=[(1,.box 123 false [.mp 3]),(3,.mapo T3 .bool l)]):=by
 refine fnM_ok Try.func62 (by kernel_rfl) rfl Try.ntmps62 (by simp only [List.length_cons,List.length_nil];omega) (by kernel_rfl) rfl rfl (tyTab_ok []) fns_nil ?_
 intro w0 K O0 ρ0 hc hok1 hok2
 simp only [argEnv]
 repeat' (first | exact trivial | refine eS rfl ?_ | refine ev_out_inv ?_ | refine rX [1,2,4,5] hc ?_ ?_ | (refine rC (fun hcond=>?_) (fun hcond=>?_)<;>try (cases hcond;done)))
 refine Ev.ent (σ':=⟨[(5,.p .bool (accD l n a))],[(1,.box 123 false [.mp 3]),(3,.mapo T3 .bool l)]⟩) ?_ (ent_match [(1,.nm 1),(3,.nm 3)] rfl rfl ?_ ?_)
 ·exact ev_finM hc [.tmp 5] rfl (.inl rfl) (.p .bool (accD l n a)) eT ⟨rfl,rfl⟩
 ·first | exact eN | refine eM ?_
 ·first | exact eN | refine eM ?_
  rfl
theorem partD_ok (f:List GNode) (hf:GoodF f) (hs:SrtF f) (h0:0 < f.length) (l:List (Int×Bool)):CallM Try.prog 41 [.p T25 f,.clo 62 [1]] [(1,.box 123 false [.mp 3]),(3,.mapo T3 .bool l)] [1,3] (fun res _=>res=.p T25 (partF (accD l) f)):=by
 refine fnM_ok Try.func41 (by kernel_rfl) rfl Try.ntmps41 (by simp only [List.length_cons,List.length_nil];omega) (by kernel_rfl) rfl rfl (tyTab_ok [(63,subS)]) (fns_cons sub_ok fns_nil) ?_
 intro w0 K O0 ρ0 hc hok1 hok2
 simp only [argEnv]
 have hfl:=hf.1
 repeat' (first | exact trivial | refine eS rfl ?_ | refine ev_out_inv ?_ | refine rX [0,1,2,4,5,6,7,8,10,12,13,14,15,23,24,25,26,32] hc ?_ ?_ | (refine rC (fun hcond=>?_) (fun hcond=>?_)<;>try (cases hcond;done)))
 refine ev_loop (ι:={i:Nat // i≤f.length}) (fun i=>⟨[(1,.clo 62 [1]),(2,.bp 2 [] 0),(4,.bp 4 [] 0),(5,.bp 5 [] 0),(12,.p T23 f),(13,.p (.int .i64) (f.length:Int)),(14,.p (.int .i64) (i.1:Int))],[(5,.box 25 true [.sr 44 T62 0 i.1]),(4,.box 25 true [.raw (.slice none 0 0)]),(2,.box 25 true [.p T23 f]),(44,.arr 62 T62 (partL (accD l) f i.1)),(1,.box 123 false [.mp 3]),(3,.mapo T3 .bool l)]⟩) (fun i=>f.length - i.1) ⟨0,by omega⟩ (ent_match [(5,.nm 5),(4,.nm 4),(2,.nm 2),(44,.nil),(1,.nm 1),(3,.nm 3)] rfl rfl ?_ ?_) (fun i=>?_)
 ·first | exact eN | refine eM ?_
  rfl
 ·first | exact eN | refine eM ?_
 ·obtain ⟨i,hi⟩:=i
  repeat' (first | exact trivial | refine eS rfl ?_ | refine ev_out_inv ?_ | refine rX [0,1,2,4,5,6,7,8,10,12,13,14,15,23,24,25,26,32] hc ?_ ?_ | (refine rC (fun hcond=>?_) (fun hcond=>?_)<;>try (cases hcond;done)))
  ·exact eV
  ·have hif:i < f.length:=by exact eV
   have hx:(f.getD i (0,[])).2.length≤100000:=(hf.2 _ (mem_of_take_succ f (0,[]) hif)).1
   have hpn:partN (accD l) f i=((f.getD i (0,[])).1,(f.getD i (0,[])).2.filter ((accD l) (i:Int))):=rfl
   generalize hgx:f.getD i (0,[])=x at *
   obtain ⟨xt,L⟩:=x
   simp only at hx hpn
   refine ev_loop (ι:={k:Nat // k≤L.length}) (fun k=>⟨[(1,.clo 62 [1]),(2,.bp 2 [] 0),(4,.bp 4 [] 0),(5,.bp 5 [] 0),(6,.p (.int .i64) (i:Int)),(8,.bp 8 [] 0),(12,.p T23 f),(13,.p (.int .i64) (f.length:Int)),(14,.p (.int .i64) (i:Int)),(23,.p T60 L),(24,.p (.int .i64) (L.length:Int)),(25,.p (.int .i64) (k.1:Int))],[(8,.box 62 true [.p T3 xt,.sr 37 T78 0 ((L.take k.1).filter ((accD l) (i:Int))).length]),(37,.arr 78 T78 ((L.take k.1).filter ((accD l) (i:Int)))),(5,.box 25 true [.sr 44 T62 0 i]),(4,.box 25 true [.raw (.slice none 0 0)]),(2,.box 25 true [.p T23 f]),(44,.arr 62 T62 (partL (accD l) f i)),(1,.box 123 false [.mp 3]),(3,.mapo T3 .bool l)]⟩) (fun k=>L.length - k.1) ⟨0,by omega⟩ (ent_match [(8,.nm 8),(37,.nil),(5,.nm 5),(4,.nm 4),(2,.nm 2),(44,.nm 44),(1,.nm 1),(3,.nm 3)] rfl rfl ?_ ?_) (fun k=>?_)
   ·first | exact eN | refine eM ?_
    exact ⟨rfl,rfl⟩
   ·first | exact eN | refine eM ?_
   ·obtain ⟨k,hk⟩:=k
    repeat' (first | exact trivial | refine eS rfl ?_ | refine ev_out_inv ?_ | refine rX [0,1,2,4,5,6,7,8,10,12,13,14,15,23,24,25,26,32] hc ?_ ?_ | (refine rC (fun hcond=>?_) (fun hcond=>?_)<;>try (cases hcond;done)))
    ·exact eV
    ·have hkL:k < L.length:=by exact eV
     have hlf:=List.length_filter_le ((accD l) (i:Int)) (L.take k)
     have hlt:=List.length_take_le k L
     have hsn:=filter_snoc ((accD l) (i:Int)) L hkL
     refine cP 3 hc ?_ ?_
     ·trivial
     ·refine rM hc (dropC_ok l (i:Int) (L.getD k (0,0))) [(1,.nm 1),(3,.nm 3)] [] ?_ ?_ ?_
      ·first | exact eN | refine eM ?_
      ·first | exact eN | refine eM ?_
      ·rintro _ _ ⟨rfl,rfl⟩
       refine ⟨[(1,.nm 1),(3,.nm 3)],.p .bool ((accD l) (i:Int) (L.getD k (0,0))),[(1,.box 123 false [.mp 3]),(3,.mapo T3 .bool l)],rfl,rfl,?_,?_,rfl,rfl,evL_end ?_⟩
       ·first | exact eN | refine eM ?_
       ·first | exact eN | refine eM ?_
       ·generalize hac:(accD l) (i:Int) (L.getD k (0,0))=ac at *
        repeat' (first | exact trivial | refine eS rfl ?_ | refine ev_out_inv ?_ | refine rX [0,1,2,4,5,6,7,8,10,12,13,14,15,23,24,25,26,32] hc ?_ ?_ | (refine rC (fun hcond=>?_) (fun hcond=>?_)<;>try (cases hcond;done)))
        ·simp only [maxN]
         omega
        ·exact eV
        ·have hcond:ac=true:=hcond
         subst hcond
         rw [if_pos rfl] at hsn
         refine ⟨⟨k + 1,by omega⟩,by simp only;omega,ent_match [(8,.nm 8),(37,.nm 37),(5,.nm 5),(4,.nm 4),(2,.nm 2),(44,.nm 44),(1,.nm 1),(3,.nm 3)] rfl rfl ?_ ?_⟩
         ·simp only [hsn]
          first | exact eN | refine eM ?_
         ·first | exact eN | refine eM ?_
        ·exact eV
        ·have hcond:ac=false:=hcond
         subst hcond
         rw [if_neg (by simp)] at hsn
         rw [List.append_nil] at hsn
         refine ⟨⟨k + 1,by omega⟩,by simp only;omega,ent_match [(8,.nm 8),(37,.nm 37),(5,.nm 5),(4,.nm 4),(2,.nm 2),(44,.nm 44),(1,.nm 1),(3,.nm 3)] rfl rfl ?_ ?_⟩
         ·simp only [hsn]
          first | exact eN | refine eM ?_
         ·first | exact eN | refine eM ?_
    ·simp only [maxN];omega
    ·exact eV
    ·have hkL:L.take k=L:=List.take_of_length_le (by exact eV)
     rw [hkL]
     refine ⟨⟨i + 1,by omega⟩,by simp only;omega,ent_match [(5,.nm 5),(4,.nm 4),(2,.nm 2),(44,.nm 44),(1,.nm 1),(3,.nm 3)] rfl rfl ?_ ?_⟩
     ·simp only [partL_succ,hpn]
      first | exact eN | refine eM ?_
      rw [List.take_of_length_le (Nat.le_of_eq (partL_len _ f i))]
     ·first | exact eN | refine eM ?_
  ·have hif:i=f.length:=by exact eV
   subst hif
   obtain ⟨hg1,hg2⟩:=part_good hf hs (accD l)
   have hpl:=partL_len (accD l) f f.length
   have hpf:partF (accD l) f=canonicalF (partL (accD l) f f.length) 0:=rfl
   refine frzE [44] ?_
   have htl:(partL (accD l) f f.length).take f.length=partL (accD l) f f.length:=List.take_of_length_le (Nat.le_of_eq hpl)
   rw [hpf]
   rw [htl]
   generalize partL (accD l) f f.length=g at *
   repeat' (first | exact trivial | refine eS rfl ?_ | refine ev_out_inv ?_ | refine rX [0,1,2,4,5,6,7,8,10,12,13,14,15,23,24,25,26,32] hc ?_ ?_ | (refine rC (fun hcond=>?_) (fun hcond=>?_)<;>try (cases hcond;done)))
   ·exact ⟨hg1,hg2,by exact eV⟩
   ·exact ev_finM hc [.cell 4 25] rfl (.inl rfl) (.p T25 (canonicalF g 0)) eT rfl
def goneF (l:List Int):List (Int×Bool):=l.foldl (fun m x=>mput T3 .bool x true m) []
def pdropF (f:List GNode) (l:List Int):List GNode:=partF (accD (goneF l)) f
def pdropS:Spec:={ ins:=[T25,T41],pre:=fun (f,l,_)=>GoodF f∧SrtF f∧0 < List.length f∧List.length l≤100000,out:=fun (f,l,_)=>[.p T25 (pdropF f l)] }
theorem pdrop_ok:FnOk Try.prog 40 pdropS:=by
 refine fn_ok Try.func40 (by kernel_rfl) rfl Try.ntmps40 (by decide) (by kernel_rfl) (tyTab_ok []) fns_nil ?_
 rintro w0 O0 ⟨f,l,u⟩ hc - ⟨hf,hs,h0,hl⟩
 simp only [pdropS,entEnv]
 repeat' (first | exact trivial | refine eS rfl ?_ | refine ev_out_inv ?_ | refine rX [0,1,2,4,5,7,9,10,11,12] hc ?_ ?_ | (refine rC (fun hcond=>?_) (fun hcond=>?_)<;>try (cases hcond;done)))
 refine ev_loop (ι:={i:Nat // i≤l.length}) (fun i=>⟨[(2,.bp 2 [] 0),(4,.bp 4 [] 0),(5,.bp 5 [] 0),(9,.p T41 l),(10,.p (.int .i64) (l.length:Int)),(11,.p (.int .i64) (i.1:Int))],[(4,.box 25 true [.raw (.slice none 0 0)]),(2,.box 25 true [.p T23 f]),(5,.box 123 false [.mp 8]),(8,.mapo T3 .bool (goneF (l.take i.1)))]⟩) (fun i=>l.length - i.1) ⟨0,by omega⟩ (ent_match [(4,.nm 4),(2,.nm 2),(5,.nm 5),(8,.nm 8)] rfl rfl ?_ ?_) (fun i=>?_)
 ·first | exact eN | refine eM ?_
  rfl
 ·first | exact eN | refine eM ?_
 ·obtain ⟨i,hi⟩:=i
  have hsn:=fun h:i < l.length=>fold_take (fun m x=>mput T3 .bool x true m) l (0:Int) [] h
  repeat' (first | exact trivial | refine eS rfl ?_ | refine ev_out_inv ?_ | refine rX [0,1,2,4,5,7,9,10,11,12] hc ?_ ?_ | (refine rC (fun hcond=>?_) (fun hcond=>?_)<;>try (cases hcond;done)))
  ·exact eV
  ·exact eV
  ·have hil:i < l.length:=by exact eV
   refine ⟨⟨i + 1,by omega⟩,by simp only;omega,ent_match [(4,.nm 4),(2,.nm 2),(5,.nm 5),(8,.nm 8)] rfl rfl ?_ ?_⟩
   ·first | exact eN | refine eM ?_
    exact (hsn hil).symm
   ·first | exact eN | refine eM ?_
  ·have hk:l.take i=l:=List.take_of_length_le (by exact eV)
   rw [hk]
   refine cP 2 hc ?_ ?_
   ·trivial
   ·refine rM hc (partD_ok f hf hs h0 (goneF l)) [(1,.nm 5),(3,.nm 8)] [5,8] ?_ ?_ ?_
    ·first | exact eN | refine eM ?_
    ·first | exact eN | refine eM ?_
    ·rintro _ _ rfl
     refine ⟨[],.p T25 (pdropF f l),[],rfl,rfl,trivial,?_,rfl,rfl,?_⟩
     ·unfold pdropF
      first | exact eN | refine eM ?_
     ·refine rL [4] hc ?_ ?_
      ·trivial
      ·repeat' (first | exact trivial | refine eS rfl ?_ | refine ev_out_inv ?_ | refine rX [0,1,2,4,5,7,9,10,11,12] hc ?_ ?_ | (refine rC (fun hcond=>?_) (fun hcond=>?_)<;>try (cases hcond;done)))
       exact ev_fin hc [.cell 4 25] rfl (.inl rfl) (by simp) (by first | exact eR | refine eRM ?_)
end
/- What a canonical feature structure is: its arcs ascend. -/
section
theorem cmpL_cons {x y:Int} {xs ys:List Int} (h:cmpL (x :: xs) (y :: ys)=0):x=y∧cmpL xs ys=0:=by
 simp only [cmpL] at h
 split at h
 ·cases h
 ·split at h
  ·cases h
  ·exact ⟨by omega,h⟩
theorem cmpL_pairs:∀ {l m:List (Int×Int)} {r s:List Int},l.length=m.length→cmpL (l.flatMap (fun a=>[a.1,a.2])++r) (m.flatMap (fun a=>[a.1,a.2])++s)=0→l=m∧cmpL r s=0
 | [],[],_,_,_,h=>⟨rfl,by simpa using h⟩
 | [],_ :: _,_,_,hl,_=>by simp at hl
 | _ :: _,[],_,_,hl,_=>by simp at hl
 | (a1,a2) :: l,(b1,b2) :: m,r,s,hl,h=>by
  have h:cmpL (a1 :: a2 :: (l.flatMap (fun a=>[a.1,a.2])++r)) (b1 :: b2 :: (m.flatMap (fun a=>[a.1,a.2])++s))=0:=by simpa using h
  obtain ⟨e1,h3⟩:=cmpL_cons h
  obtain ⟨e2,h4⟩:=cmpL_cons h3
  obtain ⟨e3,h5⟩:=cmpL_pairs (l:=l) (m:=m) (by simpa using hl) h4
  exact ⟨by rw [e1,e2,e3],h5⟩
theorem cmpL_nodes:∀ {l m:List GNode} {r s:List Int},l.length=m.length→cmpL (l.flatMap numN++r) (m.flatMap numN++s)=0→l=m∧cmpL r s=0
 | [],[],_,_,_,h=>⟨rfl,by simpa using h⟩
 | [],_ :: _,_,_,hl,_=>by simp at hl
 | _ :: _,[],_,_,hl,_=>by simp at hl
 | (a1,a2) :: l,(b1,b2) :: m,r,s,hl,h=>by
  have h:cmpL (a1 :: (a2.length:Int) :: (a2.flatMap (fun a=>[a.1,a.2])++(l.flatMap numN++r))) (b1 :: (b2.length:Int) :: (b2.flatMap (fun a=>[a.1,a.2])++(m.flatMap numN++s)))=0:=by simpa [numN] using h
  obtain ⟨e1,h3⟩:=cmpL_cons h
  obtain ⟨e2,h4⟩:=cmpL_cons h3
  obtain ⟨e3,h5⟩:=cmpL_pairs (l:=a2) (m:=b2) (by omega) h4
  obtain ⟨e4,h6⟩:=cmpL_nodes (l:=l) (m:=m) (by simpa using hl) h5
  exact ⟨by rw [e1,e3,e4],h6⟩
theorem compareF_eq {a b:List GNode} (h:compareF a b=0):a=b:=by
 unfold compareF numbersF at h
 obtain ⟨h1,h2⟩:=cmpL_cons h
 have:=cmpL_nodes (l:=a) (m:=b) (r:=[]) (s:=[]) (by omega) (by simpa using h2)
 exact this.1
theorem cmpL_self:∀ l:List Int,cmpL l l=0
 | []=>rfl
 | x :: l=>by simp [cmpL,cmpL_self l]
theorem compareF_self (a:List GNode):compareF a a=0:=cmpL_self _
/-! The sort ascends -/
theorem posF_spec (x:Int×Int) (s:List (Int×Int)):∀ n,(∀ j,posF x s n≤j→j < n→x.1 < (s.getD j (0,0)).1)∧(0 < posF x s n→(s.getD (posF x s n - 1) (0,0)).1≤x.1)
 | 0=>⟨fun j h1 h2=>by omega,fun h=>by simp [posF] at h⟩
 | n + 1=>by
  obtain ⟨h1,h2⟩:=posF_spec x s n
  unfold posF
  split
  ·rename_i hc
   refine ⟨fun j g1 g2=>?_,h2⟩
   by_cases e:j=n
   ·subst e;exact hc
   ·exact h1 j g1 (by omega)
  ·rename_i hc
   exact ⟨fun j g1 g2=>by omega,fun _=>by simp only [Nat.add_sub_cancel];omega⟩
theorem pw_get {l:List (Int×Int)} (h:l.Pairwise (fun a b=>a.1≤b.1)) {i j:Nat} (hij:i≤j) (hj:j < l.length):(l.getD i (0,0)).1≤(l.getD j (0,0)).1:=by
 rcases Nat.eq_or_lt_of_le hij with rfl | hlt
 ·exact Int.le_refl _
 ·rw [List.pairwise_iff_getElem] at h
  have:=h i j (by omega) hj hlt
  simpa [List.getD_eq_getElem?_getD,hj,show i < l.length by omega] using this
theorem insF_sorted {s:List (Int×Int)} (h:s.Pairwise (fun a b=>a.1≤b.1)) (x:Int×Int):(insF s x).Pairwise (fun a b=>a.1≤b.1):=by
 obtain ⟨h1,h2⟩:=posF_spec x s s.length
 have hp:=posF_le x s s.length
 unfold insF
 generalize posF x s s.length=p at *
 rw [List.pairwise_append,List.pairwise_append]
 have hlow:∀ a∈s.take p,a.1≤x.1:=fun a ha=>by
  obtain ⟨i,hi,rfl⟩:=List.mem_iff_getElem.1 ha
  rw [List.length_take] at hi
  have h3:=pw_get h (i:=i) (j:=p - 1) (by omega) (by omega)
  have h4:=h2 (by omega)
  have e:(s.take p)[i].1=(s.getD i (0,0)).1:=by simp [List.getD_eq_getElem?_getD,show i < s.length by omega]
  rw [e]
  omega
 have hhigh:∀ b∈s.drop p,x.1≤b.1:=fun b hb=>by
  obtain ⟨i,hi,rfl⟩:=List.mem_iff_getElem.1 hb
  rw [List.length_drop] at hi
  have h3:=h1 (p + i) (by omega) (by omega)
  have e:(s.drop p)[i].1=(s.getD (p + i) (0,0)).1:=by simp [List.getD_eq_getElem?_getD,show p + i < s.length by omega]
  rw [e]
  omega
 refine ⟨⟨h.sublist (List.take_sublist _ _),by simp,fun a ha b hb=>?_⟩,h.sublist (List.drop_sublist _ _),fun a ha b hb=>?_⟩
 ·have:b=x:=by simpa using hb
  rw [this]
  exact hlow a ha
 ·rcases List.mem_append.1 ha with ha | ha
  ·exact Int.le_trans (hlow a ha) (hhigh b hb)
  ·have:a=x:=by simpa using ha
   rw [this]
   exact hhigh b hb
theorem sortedF_sorted (l:List (Int×Int)):(sortedF l).Pairwise (fun a b=>a.1≤b.1):=by
 induction l using list_snoc_ind with
 | h0=>exact List.Pairwise.nil
 | h1 l a ih=>rw [sortedF_snoc];exact insF_sorted ih a
theorem arcsG_nodup {n:Int}:∀ {l seen:List (Int×Int)},arcsG n seen l=0→(l.map (·.1)).Nodup∧∀ a∈l,∀ b∈seen,b.1≠a.1
 | [],_,_=>⟨by simp,fun a ha=>by cases ha⟩
 | x :: l,seen,h=>by
  simp only [arcsG] at h
  split at h
  ·cases h
  ·split at h
   ·cases h
   ·rename_i h1 h2
    obtain ⟨g1,g2⟩:=arcsG_nodup h
    have h2:∀ b∈seen,b.1≠x.1:=fun b hb e=>h2 (List.any_eq_true.2 ⟨b,hb,by simp [e]⟩)
    refine ⟨?_,fun a ha b hb=>?_⟩
    ·rw [List.map_cons,List.nodup_cons]
     refine ⟨fun hm=>?_,g1⟩
     obtain ⟨a,ha,e⟩:=List.mem_map.1 hm
     exact g2 a ha x (by simp) e.symm
    ·rcases List.mem_cons.1 ha with rfl | ha
     ·exact h2 b hb
     ·exact g2 a ha b (by simp [hb])
theorem formG_arcs {m:Int}:∀ {f:List GNode},formG m f=0→∀ x∈f,arcsF x.2 m=0
 | [],_,x,hx=>by cases hx
 | y :: f,h,x,hx=>by
  simp only [formG] at h
  split at h
  ·cases h
  ·split at h
   ·rename_i h1 h2;exact absurd h h2
   ·rename_i h1 h2
    rcases List.mem_cons.1 hx with rfl | hx
    ·exact Classical.byContradiction h2
    ·exact formG_arcs h x hx
theorem strict_of {l:List (Int×Int)} (h:l.Pairwise (fun a b=>a.1≤b.1)) (hn:(l.map (·.1)).Nodup):l.Pairwise (fun a b=>a.1 < b.1):=by
 rw [List.Nodup,List.pairwise_map] at hn
 refine (h.and hn).imp fun {a b} hab=>?_
 have h1:=hab.1
 have h2:¬ a.1=b.1:=hab.2
 omega
theorem canonical_good {f:List GNode} (h:canonicalB f=true):GoodF f∧SrtF f∧0 < f.length∧lightF f=true:=by
 unfold canonicalB at h
 simp only [Bool.and_eq_true,beq_iff_eq] at h
 obtain ⟨⟨hl,_⟩,hc,he⟩:=h
 obtain ⟨hl1,hl2⟩:=light_small hl
 have hsa:SmallA f:=fun x hx=>Nat.le_trans (hl2 x hx) (by omega)
 have hform:formF f=0:=by
  unfold canonF at hc
  split at hc
  ·assumption
  ·exact hc
 obtain ⟨hg,h0⟩:=formF_good hform hsa
 have hcf:(canonF f).1=fromF f 0:=by unfold canonF;rw [if_pos hform]
 rw [hcf] at he
 have hfe:=compareF_eq he
 refine ⟨hg,fun x hx=>⟨?_,Nat.le_trans (hl2 x hx) (by omega)⟩,h0,hl⟩
 rw [← hfe] at hx
 obtain ⟨n,_,rfl⟩:=List.mem_map.1 hx
 rw [srtA_iff]
 have harcs:((f.getD n.toNat (0,[])).2.map (·.1)).Nodup:=by
  by_cases hlt:n.toNat < f.length
  ·have hm:f.getD n.toNat (0,[])∈f:=mem_of_take_succ f (0,[]) hlt
   have hfg:formG f.length f=0:=by
    unfold formF at hform
    split at hform
    ·cases hform
    ·split at hform
     ·cases hform
     ·exact hform
   exact (arcsG_nodup (formG_arcs hfg _ hm)).1
  ·rw [List.getD_eq_getElem?_getD,List.getElem?_eq_none (by omega)]
   simp
 have hst:=strict_of (sortedF_sorted (f.getD n.toNat (0,[])).2) (((sortedF_perm _).map (·.1)).nodup_iff.2 harcs)
 unfold nodeF
 simp only
 rw [List.pairwise_map]
 exact hst.imp fun hab=>hab
end
/- Plain: the breadth-first search of grammarlabref08.First. -/
section
abbrev Bfs:=List (List Int)×List Bool×List Int
def bfsA (n:Int) (s:Bfs) (a:Int×Int):Bfs :=
 if s.2.1.getD a.2.toNat false=true then s else (s.1.set a.2.toNat (s.1.getD n.toNat []++[a.1]),s.2.1.set a.2.toNat true,s.2.2++[a.2])
def bfsN (f:List GNode) (s:Bfs) (n:Int):Bfs:=(f.getD n.toNat (0,[])).2.foldl (bfsA n) s
def bfs (f:List GNode):Nat→Nat→Bfs→Bfs
 | 0,_,s=>s
 | k + 1,i,s=>if i < s.2.2.length then bfs f k (i + 1) (bfsN f s (s.2.2.getD i 0)) else s
def bfs0 (m:Nat):Bfs:=(List.replicate m [],(List.replicate m false).set 0 true,[0])
def firstF (f:List GNode):List (List Int):=(bfs f f.length 0 (bfs0 f.length)).1
def unseen (l:List Bool):Nat:=l.countP (fun b=>!b)
structure BOk (f:List GNode) (s:Bfs):Prop where
 l1:s.1.length=f.length
 l2:s.2.1.length=f.length
 cnt:s.2.2.length + unseen s.2.1≤f.length
 rng:∀ x∈s.2.2,0≤x∧x < (f.length:Int)
 pl:∀ p∈s.1,p.length≤s.2.2.length
theorem unseen_set {l:List Bool} {n:Nat} (hn:n < l.length) (h:l.getD n false=false):unseen (l.set n true) + 1=unseen l:=by
 induction l generalizing n with
 | nil=>simp at hn
 | cons x r ih =>
  cases n with
  | zero =>
   have hx:x=false:=by simpa using h
   simp [unseen,List.countP_cons,hx]
  | succ n =>
   have h1:=ih (n:=n) (by simpa using hn) (by simpa using h)
   simp only [unseen,List.set_cons_succ,List.countP_cons] at h1 ⊢
   omega
theorem getD_len {s:List (List Int)} {m:Nat} (h:∀ p∈s,p.length≤m) (n:Nat):(s.getD n []).length≤m:=by
 by_cases hn:n < s.length
 ·rw [List.getD_eq_getElem?_getD,List.getElem?_eq_getElem hn]
  exact h _ (List.getElem_mem hn)
 ·rw [List.getD_eq_getElem?_getD,List.getElem?_eq_none (by omega)]
  simp
theorem bfsA_ok {f:List GNode} {s:Bfs} (h:BOk f s) {n:Int} {a:Int×Int} (h0:0≤a.2) (h1:a.2 < f.length):BOk f (bfsA n s a):=by
 unfold bfsA
 split
 ·exact h
 ·rename_i hc
  have hc:s.2.1.getD a.2.toNat false=false:=by simpa using hc
  have h2:=unseen_set (l:=s.2.1) (n:=a.2.toNat) (by rw [h.l2];omega) hc
  have hcn:=h.cnt
  refine ⟨by simpa using h.l1,by simpa using h.l2,?_,fun x hx=>?_,fun p hp=>?_⟩
  ·simp only [List.length_append,List.length_singleton];omega
  ·rcases List.mem_append.1 hx with hx | hx
   ·exact h.rng x hx
   ·have:x=a.2:=by simpa using hx
    subst this;exact ⟨h0,h1⟩
  ·simp only [List.length_append,List.length_singleton]
   rcases List.mem_or_eq_of_mem_set hp with hp | rfl
   ·exact Nat.le_succ_of_le (h.pl p hp)
   ·have:=getD_len h.pl n.toNat
    simp only [List.length_append,List.length_singleton];omega
theorem arcs_in {f:List GNode} (hf:GoodF f) {n:Int} {a:Int×Int} (ha:a∈(f.getD n.toNat (0,[])).2):0≤a.2∧a.2 < f.length:=by
 by_cases h:n.toNat < f.length
 ·have hm:f.getD n.toNat (0,[])∈f:=by
   rw [List.getD_eq_getElem?_getD,List.getElem?_eq_getElem h];exact List.getElem_mem h
  exact (hf.2 _ hm).2 a ha
 ·rw [List.getD_eq_getElem?_getD,List.getElem?_eq_none (by omega)] at ha
  simp at ha
theorem bfs0_ok {f:List GNode} (h:0 < f.length):BOk f (bfs0 f.length):=by
 refine ⟨by simp [bfs0],by simp [bfs0],?_,fun x hx=>?_,fun p hp=>?_⟩
 ·have h2:=unseen_set (l:=List.replicate f.length false) (n:=0) (by simpa using h) (by simp [List.getD_eq_getElem?_getD,h])
  have h3:unseen (List.replicate f.length false)=f.length:=by simp [unseen,List.countP_replicate]
  simp only [bfs0,List.length_singleton]
  omega
 ·have:x=0:=by simpa [bfs0] using hx
  subst this;omega
 ·have:p=[]:=by
   have:=List.eq_of_mem_replicate (by simpa [bfs0] using hp:p∈List.replicate f.length [])
   exact this
  subst this;simp
theorem bfsA_pre {n:Int} {s:Bfs} {a:Int×Int} {i:Nat} (h:i < s.2.2.length):i < (bfsA n s a).2.2.length∧(bfsA n s a).2.2.getD i 0=s.2.2.getD i 0:=by
 unfold bfsA
 split
 ·exact ⟨h,rfl⟩
 ·refine ⟨by simp only [List.length_append];omega,?_⟩
  simp only [List.getD_eq_getElem?_getD]
  rw [List.getElem?_append_left h]
theorem bfsF_pre {n:Int} {i:Nat}:∀ {l:List (Int×Int)} {s:Bfs},i < s.2.2.length→i < (l.foldl (bfsA n) s).2.2.length∧(l.foldl (bfsA n) s).2.2.getD i 0=s.2.2.getD i 0
 | [],_,h=>⟨h,rfl⟩
 | a :: l,s,h=>by
  have h1:=bfsA_pre (n:=n) (a:=a) h
  have h2:=bfsF_pre (n:=n) (l:=l) h1.1
  exact ⟨h2.1,h2.2.trans h1.2⟩
theorem bfs_end {f:List GNode} {k i:Nat} {s:Bfs} (h:s.2.2.length≤i):bfs f k i s=s:=by
 cases k with
 | zero=>rfl
 | succ k=>simp only [bfs];rw [if_neg (by omega)]
theorem bfs_next {f:List GNode} {m i:Nat} {s:Bfs} (h:i < s.2.2.length) (hm:s.2.2.length≤m):bfs f (m - i) i s=bfs f (m - (i + 1)) (i + 1) (bfsN f s (s.2.2.getD i 0)):=by
 obtain ⟨k,hk⟩:∃ k,m - i=k + 1:=⟨m - i - 1,by omega⟩
 have e:m - (i + 1)=k:=by omega
 rw [hk,e]
 simp only [bfs]
 rw [if_pos h]
end
/- Functions of path: Clone, firsts, First. -/
section
def cloneS:Spec:={ ins:=[T41],pre:=fun (l,_)=>List.length l≤100000,out:=fun (l,_)=>[.own 3 T3 l] }
theorem clone_ok:FnOk Try.prog 109 cloneS:=by
 refine fn_ok Try.func109 (by kernel_rfl) rfl Try.ntmps109 (by decide) (by kernel_rfl) (tyTab_ok []) fns_nil ?_
 rintro w0 O0 ⟨l,u⟩ hc - hl
 have hl:List.length l≤100000:=hl
 simp only [cloneS,entEnv]
 repeat' (first | exact trivial | refine eS rfl ?_ | refine ev_out_inv ?_ | refine rX [0,2,4] hc ?_ ?_ | (refine rC (fun hcond=>?_) (fun hcond=>?_)<;>try (cases hcond;done)))
 refine cP 1 hc ?_ ?_
 ·trivial
 ·refine evL_isnil hc false rfl rfl ?_
  intro b hb
  refine rL [0,4] hc ?_ ?_
  ·trivial
  ·repeat' (first | exact trivial | refine eS rfl ?_ | refine ev_out_inv ?_ | refine rX [0,2,4] hc ?_ ?_ | (refine rC (fun hcond=>?_) (fun hcond=>?_)<;>try (cases hcond;done)))
   ·have hl0:l=[]:=hb hcond
    subst hl0
    refine Ev.ent (σ':=⟨[(2,.sr 5 T3 0 0)],[(5,.arr 3 T3 [])]⟩) ?_ (ent_match [(5,.nil)] rfl rfl ?_ ?_)
    ·exact ev_fin_own hc (.inl rfl) (rv:=.tmp 2) rfl (by simp only [resIs,resV,ownOf,go_sem,Nat.reduceEqDiff,reduceCtorEq,Nat.reduceAdd,Nat.reduceSub,Nat.reduceMul,Nat.reduceLeDiff,Nat.reduceLT,Int.reduceLE,Int.reduceToNat,Int.reduceNeg,↓reduceIte])
    ·first | exact eN | refine eM ?_
    ·first | exact eN | refine eM ?_
   ·simp only [maxN];omega
   ·exact ev_fin_own hc (.inl rfl) (rv:=.tmp 2) rfl (by simp only [resIs,resV,ownOf,go_sem,Nat.reduceEqDiff,reduceCtorEq,Nat.reduceAdd,Nat.reduceSub,Nat.reduceMul,Nat.reduceLeDiff,Nat.reduceLT,Int.reduceLE,Int.reduceToNat,Int.reduceNeg,↓reduceIte])
/-! The plain law -/
def bst (f:List GNode):Nat→Bfs
 | 0=>bfs0 f.length
 | i + 1=>bfsN f (bst f i) ((bst f i).2.2.getD i 0)
def nodeI (f:List GNode) (i:Nat):Int:=(bst f i).2.2.getD i 0
def pathI (f:List GNode) (i:Nat):List Int:=(bst f i).1.getD (nodeI f i).toNat []
def coll (f:List GNode):Nat→List (List Int)
 | 0=>List.replicate f.length []
 | i + 1=>(coll f i).set (nodeI f i).toNat (pathI f i)
structure BI (f:List GNode) (s:Bfs):Prop where
 ok:BOk f s
 mem:∀ x,x < f.length→(s.2.1.getD x false=true↔(x:Int)∈s.2.2)
 emp:∀ x:Nat,(x:Int) ∉ s.2.2→s.1.getD x []=[]
theorem getD_set_ne {α:Type} (l:List α) (d v:α) {i j:Nat} (h:i≠j):(l.set i v).getD j d=l.getD j d:=by
 simp only [List.getD_eq_getElem?_getD];rw [List.getElem?_set_ne h]
theorem getD_set_self {α:Type} (l:List α) (d v:α) {i:Nat} (h:i < l.length):(l.set i v).getD i d=v:=by
 simp only [List.getD_eq_getElem?_getD];rw [List.getElem?_set_self h];rfl
theorem bfsA_BI {f:List GNode} {s:Bfs} (h:BI f s) {n:Int} {a:Int×Int} (h0:0≤a.2) (h1:a.2 < f.length) :
  BI f (bfsA n s a)∧s.2.2 <+: (bfsA n s a).2.2∧∀ x∈s.2.2,(bfsA n s a).1.getD x.toNat []=s.1.getD x.toNat []:=by
 have hok:=bfsA_ok (n:=n) h.ok h0 h1
 have hl1:=h.ok.l1
 have hl2:=h.ok.l2
 unfold bfsA at hok ⊢
 split at hok
 ·rename_i hc
  rw [if_pos hc]
  exact ⟨h,List.prefix_refl _,fun _ _=>rfl⟩
 ·rename_i hc
  rw [if_neg hc]
  have hna:a.2 ∉ s.2.2:=fun hm=>hc ((h.mem a.2.toNat (by omega)).2 (by rw [show ((a.2.toNat:Nat):Int)=a.2 by omega];exact hm))
  refine ⟨⟨hok,fun x hx=>?_,fun x hx=>?_⟩,List.prefix_append _ _,fun x hx=>?_⟩
  ·by_cases e:a.2.toNat=x
   ·subst e
    simp only
    rw [getD_set_self _ _ _ (by omega)]
    constructor
    ·intro _;rw [show ((a.2.toNat:Nat):Int)=a.2 by omega];simp
    ·intro _;rfl
   ·simp only
    rw [getD_set_ne _ _ _ e,h.mem x hx]
    have:¬ (x:Int)=a.2:=by omega
    simp [this]
  ·have hx1:(x:Int) ∉ s.2.2∧¬ (x:Int)=a.2:=by simpa using hx
   simp only
   rw [getD_set_ne _ _ _ (by omega)]
   exact h.emp x hx1.1
  ·have hr:=h.ok.rng x hx
   have:¬ a.2=x:=fun e=>hna (by rw [e];exact hx)
   simp only
   rw [getD_set_ne _ _ _ (by omega)]
theorem bfsF_BI {f:List GNode} {n:Int}:∀ {l:List (Int×Int)} {s:Bfs},(∀ a∈l,0≤a.2∧a.2 < (f.length:Int))→BI f s →
  BI f (l.foldl (bfsA n) s)∧s.2.2 <+: (l.foldl (bfsA n) s).2.2∧∀ x∈s.2.2,(l.foldl (bfsA n) s).1.getD x.toNat []=s.1.getD x.toNat []
 | [],_,_,h=>⟨h,List.prefix_refl _,fun _ _=>rfl⟩
 | a :: l,s,hl,h=>by
  have q:=hl a (by simp)
  obtain ⟨g1,g2,g3⟩:=bfsA_BI (n:=n) h q.1 q.2
  obtain ⟨i1,i2,i3⟩:=bfsF_BI (n:=n) (l:=l) (fun b hb=>hl b (by simp [hb])) g1
  exact ⟨i1,g2.trans i2,fun x hx=>(i3 x (g2.subset hx)).trans (g3 x hx)⟩
theorem bfs0_BI {f:List GNode} (h:0 < f.length):BI f (bfs0 f.length):=by
 refine ⟨bfs0_ok h,fun x hx=>?_,fun x _=>?_⟩
 ·by_cases e:x=0
  ·subst e
   simp only [bfs0]
   rw [getD_set_self _ _ _ (by simpa using h)]
   simp
  ·simp only [bfs0]
   rw [getD_set_ne _ _ _ (fun e'=>e e'.symm)]
   have:¬ (x:Int)=0:=by omega
   simp [List.getD_eq_getElem?_getD,List.getElem?_replicate,hx,this,e]
 ·simp only [bfs0,List.getD_eq_getElem?_getD,List.getElem?_replicate]
  split<;>rfl
theorem bst_BI {f:List GNode} (hf:GoodF f) (h0:0 < f.length):∀ i,BI f (bst f i)
 | 0=>bfs0_BI h0
 | i + 1=>(bfsF_BI (fun a ha=>arcs_in hf ha) (bst_BI hf h0 i)).1
theorem coll_len (f:List GNode):∀ i,(coll f i).length=f.length
 | 0=>by simp [coll]
 | i + 1=>by simp [coll,coll_len f i]
theorem coll_get {f:List GNode} (hf:GoodF f) (h0:0 < f.length):∀ i,(∀ j,j < i→j < (bst f j).2.2.length)→∀ x:Nat,(coll f i).getD x []=if (x:Int)∈(bst f i).2.2.take i then (bst f i).1.getD x [] else []
 | 0,_,x=>by
  simp only [coll,List.take_zero,List.not_mem_nil,if_false,List.getD_eq_getElem?_getD,List.getElem?_replicate]
  split<;>rfl
 | i + 1,hj,x=>by
  have ih:=coll_get hf h0 i (fun j hji=>hj j (by omega)) x
  have hi:=hj i (by omega)
  have hbi:=bst_BI hf h0 i
  obtain ⟨g1,g2,g3⟩:=bfsF_BI (n:=nodeI f i) (l:=(f.getD (nodeI f i).toNat (0,[])).2) (fun a ha=>arcs_in hf ha) hbi
  have e1:bst f (i + 1)=(f.getD (nodeI f i).toNat (0,[])).2.foldl (bfsA (nodeI f i)) (bst f i):=rfl
  rw [← e1] at g1 g2 g3
  have htk:(bst f (i + 1)).2.2.take (i + 1)=(bst f i).2.2.take i++[nodeI f i]:=by
   obtain ⟨t,ht⟩:=g2
   rw [← ht,List.take_append_of_le_length (by omega),take_snoc _ (0:Int) hi]
   rfl
  have hmem:nodeI f i∈(bst f i).2.2:=mem_of_take_succ _ 0 hi
  have hr:=hbi.ok.rng _ hmem
  rw [htk]
  simp only [coll]
  by_cases e:(nodeI f i).toNat=x
  ·subst e
   rw [getD_set_self _ _ _ (by rw [coll_len];omega),show (((nodeI f i).toNat:Nat):Int)=nodeI f i by omega,if_pos (by simp),g3 _ hmem]
   rfl
  ·rw [getD_set_ne _ _ _ e,ih]
   have hne:¬ (x:Int)=nodeI f i:=by omega
   by_cases hx:(x:Int)∈(bst f i).2.2.take i
   ·rw [if_pos hx,if_pos (by simp [hx])]
    have:=g3 _ (List.mem_of_mem_take hx)
    rw [show ((x:Int)).toNat=x by omega] at this
    exact this.symm
   ·rw [if_neg hx,if_neg (by simp [hx,hne])]
theorem bst_bfs {f:List GNode} (hf:GoodF f) (h0:0 < f.length):∀ i,(∀ j,j < i→j < (bst f j).2.2.length)→bfs f (f.length - i) i (bst f i)=bfs f f.length 0 (bfs0 f.length)
 | 0,_=>rfl
 | i + 1,hj=>by
  rw [← bst_bfs hf h0 i (fun j hji=>hj j (by omega))]
  have hb:=(bst_BI hf h0 i).ok
  have:=hb.cnt
  exact (bfs_next (hj i (by omega)) (by omega)).symm
theorem coll_first {f:List GNode} (hf:GoodF f) (h0:0 < f.length) {n:Nat} (hj:∀ j,j < n→j < (bst f j).2.2.length) (hn:(bst f n).2.2.length≤n):coll f n=firstF f:=by
 have e:firstF f=(bst f n).1:=by
  unfold firstF
  rw [← bst_bfs hf h0 n hj,bfs_end hn]
 have hb:=bst_BI hf h0 n
 rw [e]
 apply List.ext_getElem
 ·rw [coll_len,hb.ok.l1]
 ·intro x h1 h2
  have hg:=coll_get hf h0 n hj x
  rw [List.take_of_length_le hn] at hg
  have e1:(coll f n).getD x []=(coll f n)[x]:=by simp [List.getD_eq_getElem?_getD,h1]
  have e2:(bst f n).1.getD x []=(bst f n).1[x]:=by simp [List.getD_eq_getElem?_getD,h2]
  rw [← e1,← e2,hg]
  split
  ·rfl
  ·rename_i hx;exact (hb.emp x hx).symm
end
/- Functions of path: firsts, First. -/
section
attribute [local go_sem] cloneS
theorem firsts_ok (f:List GNode):CallM Try.prog 85 [.p T25 f] [] [] (fun res objs'=>res=.clo 108 [1]∧objs'=[(1,.box 25 true [.p T23 f])]):=by
 refine fnM_ok Try.func85 (by kernel_rfl) rfl Try.ntmps85 (by simp only [List.length_cons,List.length_nil];omega) (by kernel_rfl) rfl rfl (tyTab_ok []) fns_nil ?_
 intro w0 K O0 ρ0 hc hok1 hok2
 simp only [argEnv]
 repeat' (first | exact trivial | refine eS rfl ?_ | refine ev_out_inv ?_ | refine rX [0,1,2] hc ?_ ?_ | (refine rC (fun hcond=>?_) (fun hcond=>?_)<;>try (cases hcond;done)))
 exact ev_finM hc [.tmp 2] rfl (.inl rfl) (.clo 108 [1]) eT ⟨rfl,rfl⟩
def fObjs (f:List GNode) (L:Go.Loop) (tm:Array Value) (i:Nat):List (Nat×Obj):=[(50,.box 25 true [.p T23 f]),(101,.loop L),(102,.frame tm [(3,.bp 3 [] 0)]),(3,.box 47 false [.sr 9 T41 0 f.length]),(9,.arr 41 T41 (coll f i))]
def pathsOf (s:Bfs):List (List Int):=s.2.2.map fun n=>s.1.getD n.toNat []
theorem pathsOf_len (s:Bfs):(pathsOf s).length=s.2.2.length:=by simp [pathsOf]
theorem pathsOf_get {s:Bfs} {i:Nat} (h:i < s.2.2.length):(pathsOf s).getD i []=s.1.getD (s.2.2.getD i 0).toNat []:=by
 simp [pathsOf,List.getD_eq_getElem?_getD,h]
theorem firsts1_ok (f:List GNode) (hf:GoodF f) (h0:0 < f.length) (L:Go.Loop) (tm:Array Value)
  (hY:∀ i,i < (bst f i).2.2.length→CallY Try.prog 101 [.p T3 (nodeI f i),.p T41 (pathI f i)] (fObjs f L tm i) [50,101,102,3] (fun res objs'=>res=.p .bool true∧objs'=fObjs f L tm (i + 1))) :
  CallM Try.prog 108 [.yl 101,.bp 50 [] 0] (fObjs f L tm 0) [50,101,102,3] (fun res objs'=>res=.raw (.tuple #[])∧∃ N,objs'=fObjs f L tm N∧coll f N=firstF f):=by
 refine fnM_ok Try.func108 (by kernel_rfl) rfl Try.ntmps108 (by simp only [List.length_cons,List.length_nil];omega) (by kernel_rfl) rfl rfl (tyTab_ok [(109,cloneS)]) (fns_cons clone_ok fns_nil) ?_
 intro w0 K O0 ρ0 hc hok1 hok2
 simp only [argEnv,fObjs]
 have hfl:=hf.1
 repeat' (first | exact trivial | refine eS rfl ?_ | refine ev_out_inv ?_ | refine rX [0,1,3,4,5,6,8,20,33,42,43,44,45,53] hc ?_ ?_ | (refine rC (fun hcond=>?_) (fun hcond=>?_)<;>try (cases hcond;done)))
 ·simp only [maxN];omega
 ·exact eV
 ·have hbi:=fun i=>bst_BI hf h0 i
  have hy:=hY
  clear hY
  refine ev_loop (ι:={i:Nat // ∀ j,j < i→j < (bst f j).2.2.length}) (fun i=>⟨[(0,.yl 101),(1,.bp 50 [] 0),(3,.sr 12 T4 0 (bst f i.1).2.1.length),(4,.sr 15 T3 0 (bst f i.1).2.2.length),(5,.sr 16 T41 0 (pathsOf (bst f i.1)).length),(6,.p (.int .i64) (i.1:Int))],(12,.arr 4 T4 (bst f i.1).2.1) :: (15,.arr 3 T3 (bst f i.1).2.2) :: (16,.arr 41 T41 (pathsOf (bst f i.1))) :: fObjs f L tm i.1⟩) (fun i=>f.length + 1 - i.1) ⟨0,fun j hj=>by omega⟩ (ent_match [(12,.nm 12),(15,.nm 15),(16,.nm 16),(50,.nm 50),(101,.nm 101),(102,.nm 102),(3,.nm 3),(9,.nm 9)] rfl rfl ?_ ?_) (fun i=>?_)
  ·simp only [fObjs,bst,bfs0,pathsOf]
   first | exact eN | refine eM ?_
   simp [List.getD_eq_getElem?_getD,List.getElem?_replicate,h0]
  ·simp only [bst,bfs0,pathsOf,List.length_map]
   first | exact eN | refine eM ?_
   simp
  ·obtain ⟨i,hi⟩:=i
   have hib:i≤f.length:=by
    cases i with
    | zero=>omega
    | succ i =>
     have h1:=hi i (by omega)
     have h2:=(hbi i).ok.cnt
     omega
   have hb:=hbi i
   have hyi:=hy i
   have hnx:bst f (i + 1)=(f.getD (nodeI f i).toNat (0,[])).2.foldl (bfsA (nodeI f i)) (bst f i):=rfl
   have hnode:nodeI f i=(bst f i).2.2.getD i 0:=rfl
   have hpath:pathI f i=(bst f i).1.getD (nodeI f i).toNat []:=rfl
   generalize hs:bst f i=s at *
   have hpl:=pathsOf_len s
   have hcn:=hb.ok.cnt
   simp only [fObjs]
   repeat' (first | exact trivial | refine eS rfl ?_ | refine ev_out_inv ?_ | refine rX [0,1,3,4,5,6,8,20,33,42,43,44,45,53] hc ?_ ?_ | (refine rC (fun hcond=>?_) (fun hcond=>?_)<;>try (cases hcond;done)))
   ·have hil:i < s.2.2.length:=by exact eV
    refine cD 9 hc ?_ ?_
    ·exact ⟨by exact eV,by rw [hpl];exact eV⟩
    ·rw [pathsOf_get hil,← hnode,← hpath]
     refine rY 101 101 hc (hyi hil) [(50,.nm 50),(101,.nm 101),(102,.nm 102),(3,.nm 3),(9,.nm 9)] [9] ?_ ?_ ?_
     ·first | exact eN | refine eM ?_
     ·simp only [fObjs]
      first | exact eN | refine eM ?_
     ·rintro _ _ ⟨rfl,rfl⟩
      refine ⟨[(50,.nm 50),(101,.nm 101),(102,.nm 102),(3,.nm 3),(9,.nm 9)],.p .bool true,fObjs f L tm (i + 1),rfl,rfl,?_,?_,rfl,rfl,?_⟩
      ·simp only [fObjs]
       first | exact eN | refine eM ?_
      ·first | exact eN | refine eM ?_
      ·simp only [fObjs]
       refine rL [0,1,3,4,5,6,33] hc ?_ ?_
       ·trivial
       ·have hnm:=mem_of_take_succ s.2.2 0 hil
        have hnr:=hb.ok.rng _ hnm
        have hpre:=fun l=>bfsF_pre (n:=nodeI f i) (i:=i) (l:=l) (s:=s) hil
        have hLlen:=arcs_len hf (nodeI f i)
        have hfold:=fun l (hl:∀ a∈l,0≤a.2∧a.2 < (f.length:Int))=>bfsF_BI (n:=nodeI f i) (l:=l) hl hb
        have hLin:=fun a (ha:a∈(f.getD (nodeI f i).toNat (0,[])).2)=>arcs_in hf ha
        rw [hnode] at hnx hpre hLlen hfold hLin
        generalize hnn:s.2.2.getD i 0=n at *
        repeat' (first | exact trivial | refine eS rfl ?_ | refine ev_out_inv ?_ | refine rX [0,1,3,4,5,6,8,20,33,42,43,44,45,53] hc ?_ ?_ | (refine rC (fun hcond=>?_) (fun hcond=>?_)<;>try (cases hcond;done)))
        ·exact ⟨by exact eV,by rw [hnn];exact hnr⟩
        ·simp only [hnn]
         generalize hL2:(f.getD n.toNat (0,[])).2=L2 at *
         have hpl:=pathsOf_len s
         refine ev_loop (ι:={k:Nat // k≤L2.length}) (fun k=>⟨[(0,.yl 101),(1,.bp 50 [] 0),(3,.sr 12 T4 0 ((L2.take k.1).foldl (bfsA n) s).2.1.length),(4,.sr 15 T3 0 ((L2.take k.1).foldl (bfsA n) s).2.2.length),(5,.sr 16 T41 0 (pathsOf ((L2.take k.1).foldl (bfsA n) s)).length),(6,.p (.int .i64) (i:Int)),(42,.p T60 L2),(43,.p (.int .i64) (L2.length:Int)),(44,.p (.int .i64) (k.1:Int))],(12,.arr 4 T4 ((L2.take k.1).foldl (bfsA n) s).2.1) :: (15,.arr 3 T3 ((L2.take k.1).foldl (bfsA n) s).2.2) :: (16,.arr 41 T41 (pathsOf ((L2.take k.1).foldl (bfsA n) s))) :: fObjs f L tm (i + 1)⟩) (fun k=>L2.length - k.1) ⟨0,by omega⟩ (ent_match [(12,.nm 12),(15,.nm 15),(16,.nm 16),(50,.nm 50),(101,.nm 101),(102,.nm 102),(3,.nm 3),(9,.nm 9)] rfl rfl ?_ ?_) (fun k=>?_)
         ·simp only [fObjs,List.take_zero,List.foldl_nil]
          first | exact eN | refine eM ?_
         ·simp only [List.take_zero,List.foldl_nil]
          first | exact eN | refine eM ?_
         ·obtain ⟨k,hk⟩:=k
          obtain ⟨hbk,hpk2,hok2⟩:=hfold (L2.take k) (fun a ha=>hLin a (List.mem_of_mem_take ha))
          have hpk:=hpre (L2.take k)
          have hnext:=fun (h:k < L2.length)=>fold_take (bfsA n) L2 (0,0) s h
          simp only
          generalize hsk:(L2.take k).foldl (bfsA n) s=sk at *
          have hplk:=pathsOf_len sk
          have hcnk:=hbk.ok.cnt
          have hto:∀ (h:k < L2.length),0≤(L2.getD k (0,0)).2∧(L2.getD k (0,0)).2 < (sk.2.1.length:Int):=fun h=>by
           have h1:=hLin _ (mem_of_take_succ L2 (0,0) h)
           have h2:=hbk.ok.l2
           omega
          simp only [fObjs]
          repeat' (first | exact trivial | refine eS rfl ?_ | refine ev_out_inv ?_ | refine rX [0,1,3,4,5,6,8,20,33,42,43,44,45,53] hc ?_ ?_ | (refine rC (fun hcond=>?_) (fun hcond=>?_)<;>try (cases hcond;done)))
          ·exact eV
          ·exact hto (by exact eV)
          ·exact hto (by exact eV)
          ·simp only [maxN];omega
          ·have hkL:k < L2.length:=by exact eV
           have hst:(L2.take (k + 1)).foldl (bfsA n) s=(sk.1.set (L2.getD k (0,0)).2.toNat (sk.1.getD n.toNat []++[(L2.getD k (0,0)).1]),sk.2.1.set (L2.getD k (0,0)).2.toNat true,sk.2.2++[(L2.getD k (0,0)).2]):=by
            rw [hnext hkL]
            unfold bfsA
            rw [if_neg (by rw [hcond];simp)]
           have hna:(L2.getD k (0,0)).2 ∉ sk.2.2:=fun hm=>by
            have h1:=hto hkL
            have h2:=hbk.ok.l2
            have h3:=(hbk.mem (L2.getD k (0,0)).2.toNat (by omega)).2 (by rw [show (((L2.getD k (0,0)).2.toNat:Nat):Int)=(L2.getD k (0,0)).2 by omega];exact hm)
            rw [hcond] at h3
            cases h3
           have hget:(pathsOf sk).getD i []=sk.1.getD n.toNat []:=by
            rw [pathsOf_get hpk.1,hpk.2]
           have hgl:=getD_len hbk.ok.pl n.toNat
           have hps:pathsOf ((L2.take (k + 1)).foldl (bfsA n) s)=pathsOf sk++[sk.1.getD n.toNat []++[(L2.getD k (0,0)).1]]:=by
            rw [hst]
            unfold pathsOf
            simp only [List.map_append,List.map_cons,List.map_nil]
            congr 1
            ·refine List.map_congr_left fun x hx=>?_
             have h1:=hbk.ok.rng x hx
             have h2:¬ (L2.getD k (0,0)).2=x:=fun e=>hna (by rw [e];exact hx)
             have h3:=hto hkL
             rw [getD_set_ne _ _ _ (by omega)]
            ·have h1:=hto hkL
             have h2:=hbk.ok.l2
             have h3:=hbk.ok.l1
             rw [getD_set_self _ _ _ (by omega)]
           refine ev_mix drawsAny hc 12 [([1,2,3,4,5,6,7,8],9),([],10),([0],11)] [] (by kernel_rfl) (mxA ?_ ?_)
           ·rw [hget,hplk]
            exact ⟨Int.ofNat_lt.2 hpk.1,Nat.le_trans hgl (by omega)⟩
           ·refine mxL hc [68] ?_ ?_
            ·rw [hget]
             simp only [maxN];omega
            ·refine mxA ?_ ?_
             ·trivial
             ·refine mxL hc [68] ?_ ?_
              ·trivial
              ·refine mxA ?_ ?_
               ·trivial
               ·refine mxL hc [16] ?_ ?_
                ·simp only [maxN];omega
                ·refine mxE [0,1,3,4,5,6,8,20,33,42,43,44,45,53] hc ?_ ?_ ?_
                 ·trivial
                 ·trivial
                 ·repeat' (first | exact trivial | refine eS rfl ?_ | refine ev_out_inv ?_ | refine rX [0,1,3,4,5,6,8,20,33,42,43,44,45,53] hc ?_ ?_ | (refine rC (fun hcond=>?_) (fun hcond=>?_)<;>try (cases hcond;done)))
                  ·exact eV
                  ·refine ⟨⟨k + 1,by omega⟩,by simp only;omega,ent_match [(12,.nm 12),(15,.nm 15),(16,.nm 16),(50,.nm 50),(101,.nm 101),(102,.nm 102),(3,.nm 3),(9,.nm 9)] rfl rfl ?_ ?_⟩
                   ·simp only [hps]
                    rw [hst]
                    first | exact eN | refine eM ?_
                    rw [hget]
                   ·simp only [hps]
                    rw [hst]
                    first | exact eN | refine eM ?_
                    simp
          ·exact eV
          ·have hkL:k < L2.length:=by exact eV
           have hst:(L2.take (k + 1)).foldl (bfsA n) s=sk:=by
            rw [hnext hkL]
            unfold bfsA
            rw [if_pos (by rw [hcond])]
           refine ⟨⟨k + 1,by omega⟩,by simp only;omega,ent_match [(12,.nm 12),(15,.nm 15),(16,.nm 16),(50,.nm 50),(101,.nm 101),(102,.nm 102),(3,.nm 3),(9,.nm 9)] rfl rfl ?_ ?_⟩
           ·simp only
            rw [hst]
            first | exact eN | refine eM ?_
           ·simp only
            rw [hst]
            first | exact eN | refine eM ?_
          ·exact eV
          ·have hkL:L2.take k=L2:=List.take_of_length_le (by exact eV)
           rw [hkL] at hsk
           rw [hsk] at hnx
           have hil2:i < (bst f i).2.2.length:=by rw [hs];exact hil
           refine ⟨⟨i + 1,fun j hj=>(Nat.lt_succ_iff_lt_or_eq.1 hj).elim (hi j) (fun e=>by rw [e];exact hil2)⟩,by simp only;omega,ent_match [(12,.nm 12),(15,.nm 15),(16,.nm 16),(50,.nm 50),(101,.nm 101),(102,.nm 102),(3,.nm 3),(9,.nm 9)] rfl rfl ?_ ?_⟩
           ·simp only [hnx,fObjs]
            first | exact eN | refine eM ?_
           ·simp only [hnx]
            first | exact eN | refine eM ?_
   ·refine Ev.ent (σ':=⟨[],fObjs f L tm i⟩) ?_ (ent_match [(50,.nm 50),(101,.nm 101),(102,.nm 102),(3,.nm 3),(9,.nm 9)] rfl rfl ?_ ?_)
    ·exact ev_finM hc [] rfl (.inr rfl) (.raw (.tuple #[])) rfl ⟨rfl,i,rfl,coll_first hf h0 hi (by rw [hs];exact eV)⟩
    ·simp only [fObjs]
     first | exact eN | refine eM ?_
    ·first | exact eN | refine eM ?_
theorem pfirst_ok (f:List GNode) (hf:GoodF f) (h0:0 < f.length):CallM Try.prog 60 [.p T25 f] [] [] (fun res objs'=>res=.sr 9 T41 0 f.length∧objs'=[(9,.arr 41 T41 (firstF f))]):=by
 refine fnMR_ok Try.func60 (by kernel_rfl) rfl Try.ntmps60 (by simp only [List.length_cons,List.length_nil];omega) (by kernel_rfl) rfl rfl (tyTab_ok []) fns_nil ?_
 intro w0 K O0 ρ0 hc hok1 hok2
 simp only [argEnv]
 have hfl:=hf.1
 repeat' (first | exact trivial | refine eS rfl ?_ | refine ev_out_inv ?_ | refine rX [0,1,2,3,4,5,11,12,13] hc ?_ ?_ | (refine rC (fun hcond=>?_) (fun hcond=>?_)<;>try (cases hcond;done)))
 ·simp only [maxN];omega
 ·refine cP 1 hc ?_ ?_
  ·trivial
  ·refine rM hc (firsts_ok f) [] [] ?_ ?_ ?_
   ·first | exact eN | refine eM ?_
   ·first | exact eN | refine eM ?_
   ·rintro _ _ ⟨rfl,rfl⟩
    refine ⟨[(50,.nm 1)],.clo 108 [50],[(50,.box 25 true [.p T23 f])],rfl,rfl,?_,?_,rfl,rfl,evL_end ?_⟩
    ·first | exact eN | refine eM ?_
    ·first | exact eN | refine eM ?_
    ·repeat' (first | exact trivial | refine eS rfl ?_ | refine ev_out_inv ?_ | refine rX [0,1,2,3,4,5,11,12,13] hc ?_ ?_ | (refine rC (fun hcond=>?_) (fun hcond=>?_)<;>try (cases hcond;done)))
     refine ev_range hc rfl rfl (by simp only [go_sem,Nat.reduceEqDiff,reduceCtorEq,Nat.reduceAdd,Nat.reduceSub,Nat.reduceMul,Nat.reduceLeDiff,Nat.reduceLT,Int.reduceLE,Int.reduceToNat,Int.reduceNeg,↓reduceIte];rfl) 101 103 102 rfl rfl rfl rfl ?_
     intro L tm hL1 hL2 hL3 hL4 hL5 hL6 htm
     refine ⟨_,fObjs f L tm 0,[50,101,102,3],_,[(50,.nm 50),(101,.nm 101),(102,.nm 102),(3,.nm 3),(9,.nm 9)],[9],firsts1_ok f hf h0 L tm ?_,rfl,rfl,?_,?_,rfl,?_⟩
     ·intro i hi
      have hb:=bst_BI hf h0 i
      have hnr:=hb.ok.rng (nodeI f i) (mem_of_take_succ _ 0 hi)
      have hcl:=coll_len f i
      have hcs:coll f (i + 1)=(coll f i).set (nodeI f i).toNat (pathI f i):=rfl
      refine callY_ok (fr:=102) rfl rfl hL1 hL4 hL5 hL6 hL3 htm rfl (by kernel_rfl) (by simp) rfl rfl (by kernel_rfl) (by kernel_rfl) (tyTab_ok []) fns_nil ?_
      intro w1 K1 O1 ρ1 lb hc hok3 hok4 hb
      simp only [fObjs,parEnv]
      repeat' (first | exact trivial | refine eS rfl ?_ | refine ev_out_inv ?_ | refine rX [0,1,2,3,4,5,11,12,13] hc ?_ ?_ | (refine rC (fun hcond=>?_) (fun hcond=>?_)<;>try (cases hcond;done)))
      refine ⟨rfl,?_⟩
      repeat' (first | exact trivial | refine eS rfl ?_ | refine ev_out_inv ?_ | refine rX [0,1,2,3,4,5,11,12,13] hc ?_ ?_ | (refine rC (fun hcond=>?_) (fun hcond=>?_)<;>try (cases hcond;done)))
      ·exact hnr
      ·refine Ev.ent (σ':=⟨[],[(50,.box 25 true [.p T23 f]),(101,.loop { L with state:=.busy }),(102,.frame tm [(3,.bp 3 [] 0)]),(3,.box 47 false [.sr 9 T41 0 f.length]),(9,.arr 41 T41 (coll f (i + 1)))]⟩) ?_ (ent_match [(50,.nm 50),(101,.nm 101),(102,.nm 102),(3,.nm 3),(9,.nm 9)] rfl rfl ?_ ?_)
       ·refine ev_roundN hc (yn:=101) rfl rfl (by simp) hb ⟨rfl,?_⟩
        simp only [fObjs,go_sem,Nat.reduceEqDiff,reduceCtorEq,Nat.reduceAdd,Nat.reduceSub,Nat.reduceMul,Nat.reduceLeDiff,Nat.reduceLT,Int.reduceLE,Int.reduceToNat,Int.reduceNeg,↓reduceIte,loop_eta hL1 hL2]
       ·rw [hcs]
        first | exact eN | refine eM ?_
       ·first | exact eN | refine eM ?_
     ·simp only [rangeSt]
      first | exact eN | refine eM ?_
     ·simp only [rangeSt,fObjs]
      first | exact eN | refine eM ?_
      rfl
     ·rintro _ _ ⟨rfl,N,rfl,hN⟩
      refine ⟨[(50,.nm 50),(101,.nm 101),(102,.nm 102),(3,.nm 3),(9,.nm 9)],fObjs f L tm N,L,rfl,rfl,?_,rfl,rfl,rfl,by rw [hL1];rfl,?_⟩
      ·simp only [fObjs]
       first | exact eN | refine eM ?_
      ·intro b
       rw [hL2]
       simp only [EvJ,fObjs,rangeSt,go_sem,Nat.reduceEqDiff,reduceCtorEq,Nat.reduceAdd,Nat.reduceSub,Nat.reduceMul,Nat.reduceLeDiff,Nat.reduceLT,Int.reduceLE,Int.reduceToNat,Int.reduceNeg,↓reduceIte]
       replace hc:=marked_ok (dn:=103) (b:=b) hc
       rw [hN]
       repeat' (first | exact trivial | refine eS rfl ?_ | refine ev_out_inv ?_ | refine rX [0,1,2,3,4,5,11,12,13] hc ?_ ?_ | (refine rC (fun hcond=>?_) (fun hcond=>?_)<;>try (cases hcond;done)))
       refine Ev.ent (σ':=⟨[(2,.sr 9 T41 0 f.length)],[(9,.arr 41 T41 (firstF f)),(103,.dfr)]⟩) ?_ (ent_match [(9,.nm 9),(103,.nm 103)] rfl rfl ?_ ?_)
       ·exact ev_finMR hc [.tmp 2] rfl (.inl rfl) rfl rfl (.sr 9 T41 0 f.length) eT ⟨rfl,by simp only [go_sem,Nat.reduceEqDiff,reduceCtorEq,Nat.reduceAdd,Nat.reduceSub,Nat.reduceMul,Nat.reduceLeDiff,Nat.reduceLT,Int.reduceLE,Int.reduceToNat,Int.reduceNeg,↓reduceIte]⟩
       ·first | exact eN | refine eM ?_
       ·first | exact eN | refine eM ?_
end
/- Functions of restrict: Depth. -/
section
attribute [local go_sem] subS canonicalS
def accT (first:List (List Int)) (d:Int) (n:Int) (_:Int×Int):Bool:=decide (((first.getD n.toNat []).length:Int) < d)
theorem depthC_ok (first:List (List Int)) (d:Int) (n:Int) (a:Int×Int) (h:0≤n∧n < (first.length:Int)):CallM Try.prog 61 [.p T3 n,.p T78 a,.bp 1 [] 0,.bp 3 [] 0] [(1,.box 47 false [.p T47 first]),(3,.box 3 false [.p T3 d])] [1,3] (fun res objs'=>res=.p .bool (accT first d n a)∧objs'=[(1,.box 47 false [.p T47 first]),(3,.box 3 false [.p T3 d])]):=by
 refine fnM_ok Try.func61 (by kernel_rfl) rfl Try.ntmps61 (by simp only [List.length_cons,List.length_nil];omega) (by kernel_rfl) rfl rfl (tyTab_ok []) fns_nil ?_
 intro w0 K O0 ρ0 hc hok1 hok2
 simp only [argEnv]
 repeat' (first | exact trivial | refine eS rfl ?_ | refine ev_out_inv ?_ | refine rX [0,1,2,3,6] hc ?_ ?_ | (refine rC (fun hcond=>?_) (fun hcond=>?_)<;>try (cases hcond;done)))
 ·exact h
 ·refine Ev.ent (σ':=⟨[(6,.p .bool (accT first d n a))],[(1,.box 47 false [.p T47 first]),(3,.box 3 false [.p T3 d])]⟩) ?_ (ent_match [(1,.nm 1),(3,.nm 3)] rfl rfl ?_ ?_)
  ·exact ev_finM hc [.tmp 6] rfl (.inl rfl) (.p .bool (accT first d n a)) eT ⟨rfl,rfl⟩
  ·first | exact eN | refine eM ?_
  ·first | exact eN | refine eM ?_
   rfl
theorem partT_ok (f:List GNode) (hf:GoodF f) (hs:SrtF f) (h0:0 < f.length) (first:List (List Int)) (d:Int) (hfi:first.length=f.length):CallM Try.prog 41 [.p T25 f,.clo 61 [1,3]] [(1,.box 47 false [.p T47 first]),(3,.box 3 false [.p T3 d])] [1,3] (fun res _=>res=.p T25 (partF (accT first d) f)):=by
 refine fnM_ok Try.func41 (by kernel_rfl) rfl Try.ntmps41 (by simp only [List.length_cons,List.length_nil];omega) (by kernel_rfl) rfl rfl (tyTab_ok [(63,subS)]) (fns_cons sub_ok fns_nil) ?_
 intro w0 K O0 ρ0 hc hok1 hok2
 simp only [argEnv]
 have hfl:=hf.1
 repeat' (first | exact trivial | refine eS rfl ?_ | refine ev_out_inv ?_ | refine rX [0,1,2,4,5,6,7,8,10,12,13,14,15,23,24,25,26,32] hc ?_ ?_ | (refine rC (fun hcond=>?_) (fun hcond=>?_)<;>try (cases hcond;done)))
 refine ev_loop (ι:={i:Nat // i≤f.length}) (fun i=>⟨[(1,.clo 61 [1,3]),(2,.bp 2 [] 0),(4,.bp 4 [] 0),(5,.bp 5 [] 0),(12,.p T23 f),(13,.p (.int .i64) (f.length:Int)),(14,.p (.int .i64) (i.1:Int))],[(5,.box 25 true [.sr 44 T62 0 i.1]),(4,.box 25 true [.raw (.slice none 0 0)]),(2,.box 25 true [.p T23 f]),(44,.arr 62 T62 (partL (accT first d) f i.1)),(1,.box 47 false [.p T47 first]),(3,.box 3 false [.p T3 d])]⟩) (fun i=>f.length - i.1) ⟨0,by omega⟩ (ent_match [(5,.nm 5),(4,.nm 4),(2,.nm 2),(44,.nil),(1,.nm 1),(3,.nm 3)] rfl rfl ?_ ?_) (fun i=>?_)
 ·first | exact eN | refine eM ?_
  rfl
 ·first | exact eN | refine eM ?_
 ·obtain ⟨i,hi⟩:=i
  repeat' (first | exact trivial | refine eS rfl ?_ | refine ev_out_inv ?_ | refine rX [0,1,2,4,5,6,7,8,10,12,13,14,15,23,24,25,26,32] hc ?_ ?_ | (refine rC (fun hcond=>?_) (fun hcond=>?_)<;>try (cases hcond;done)))
  ·exact eV
  ·have hif:i < f.length:=by exact eV
   have hx:(f.getD i (0,[])).2.length≤100000:=(hf.2 _ (mem_of_take_succ f (0,[]) hif)).1
   have hpn:partN (accT first d) f i=((f.getD i (0,[])).1,(f.getD i (0,[])).2.filter ((accT first d) (i:Int))):=rfl
   generalize hgx:f.getD i (0,[])=x at *
   obtain ⟨xt,L⟩:=x
   simp only at hx hpn
   refine ev_loop (ι:={k:Nat // k≤L.length}) (fun k=>⟨[(1,.clo 61 [1,3]),(2,.bp 2 [] 0),(4,.bp 4 [] 0),(5,.bp 5 [] 0),(6,.p (.int .i64) (i:Int)),(8,.bp 8 [] 0),(12,.p T23 f),(13,.p (.int .i64) (f.length:Int)),(14,.p (.int .i64) (i:Int)),(23,.p T60 L),(24,.p (.int .i64) (L.length:Int)),(25,.p (.int .i64) (k.1:Int))],[(8,.box 62 true [.p T3 xt,.sr 37 T78 0 ((L.take k.1).filter ((accT first d) (i:Int))).length]),(37,.arr 78 T78 ((L.take k.1).filter ((accT first d) (i:Int)))),(5,.box 25 true [.sr 44 T62 0 i]),(4,.box 25 true [.raw (.slice none 0 0)]),(2,.box 25 true [.p T23 f]),(44,.arr 62 T62 (partL (accT first d) f i)),(1,.box 47 false [.p T47 first]),(3,.box 3 false [.p T3 d])]⟩) (fun k=>L.length - k.1) ⟨0,by omega⟩ (ent_match [(8,.nm 8),(37,.nil),(5,.nm 5),(4,.nm 4),(2,.nm 2),(44,.nm 44),(1,.nm 1),(3,.nm 3)] rfl rfl ?_ ?_) (fun k=>?_)
   ·first | exact eN | refine eM ?_
    exact ⟨rfl,rfl⟩
   ·first | exact eN | refine eM ?_
   ·obtain ⟨k,hk⟩:=k
    repeat' (first | exact trivial | refine eS rfl ?_ | refine ev_out_inv ?_ | refine rX [0,1,2,4,5,6,7,8,10,12,13,14,15,23,24,25,26,32] hc ?_ ?_ | (refine rC (fun hcond=>?_) (fun hcond=>?_)<;>try (cases hcond;done)))
    ·exact eV
    ·have hkL:k < L.length:=by exact eV
     have hlf:=List.length_filter_le ((accT first d) (i:Int)) (L.take k)
     have hlt:=List.length_take_le k L
     have hsn:=filter_snoc ((accT first d) (i:Int)) L hkL
     refine cP 3 hc ?_ ?_
     ·trivial
     ·refine rM hc (depthC_ok first d (i:Int) (L.getD k (0,0)) ⟨by omega,by omega⟩) [(1,.nm 1),(3,.nm 3)] [] ?_ ?_ ?_
      ·first | exact eN | refine eM ?_
      ·first | exact eN | refine eM ?_
      ·rintro _ _ ⟨rfl,rfl⟩
       refine ⟨[(1,.nm 1),(3,.nm 3)],.p .bool ((accT first d) (i:Int) (L.getD k (0,0))),[(1,.box 47 false [.p T47 first]),(3,.box 3 false [.p T3 d])],rfl,rfl,?_,?_,rfl,rfl,evL_end ?_⟩
       ·first | exact eN | refine eM ?_
       ·first | exact eN | refine eM ?_
       ·generalize hac:(accT first d) (i:Int) (L.getD k (0,0))=ac at *
        repeat' (first | exact trivial | refine eS rfl ?_ | refine ev_out_inv ?_ | refine rX [0,1,2,4,5,6,7,8,10,12,13,14,15,23,24,25,26,32] hc ?_ ?_ | (refine rC (fun hcond=>?_) (fun hcond=>?_)<;>try (cases hcond;done)))
        ·simp only [maxN]
         omega
        ·exact eV
        ·have hcond:ac=true:=hcond
         subst hcond
         rw [if_pos rfl] at hsn
         refine ⟨⟨k + 1,by omega⟩,by simp only;omega,ent_match [(8,.nm 8),(37,.nm 37),(5,.nm 5),(4,.nm 4),(2,.nm 2),(44,.nm 44),(1,.nm 1),(3,.nm 3)] rfl rfl ?_ ?_⟩
         ·simp only [hsn]
          first | exact eN | refine eM ?_
         ·first | exact eN | refine eM ?_
        ·exact eV
        ·have hcond:ac=false:=hcond
         subst hcond
         rw [if_neg (by simp)] at hsn
         rw [List.append_nil] at hsn
         refine ⟨⟨k + 1,by omega⟩,by simp only;omega,ent_match [(8,.nm 8),(37,.nm 37),(5,.nm 5),(4,.nm 4),(2,.nm 2),(44,.nm 44),(1,.nm 1),(3,.nm 3)] rfl rfl ?_ ?_⟩
         ·simp only [hsn]
          first | exact eN | refine eM ?_
         ·first | exact eN | refine eM ?_
    ·simp only [maxN];omega
    ·exact eV
    ·have hkL:L.take k=L:=List.take_of_length_le (by exact eV)
     rw [hkL]
     refine ⟨⟨i + 1,by omega⟩,by simp only;omega,ent_match [(5,.nm 5),(4,.nm 4),(2,.nm 2),(44,.nm 44),(1,.nm 1),(3,.nm 3)] rfl rfl ?_ ?_⟩
     ·simp only [partL_succ,hpn]
      first | exact eN | refine eM ?_
      rw [List.take_of_length_le (Nat.le_of_eq (partL_len _ f i))]
     ·first | exact eN | refine eM ?_
  ·have hif:i=f.length:=by exact eV
   subst hif
   obtain ⟨hg1,hg2⟩:=part_good hf hs (accT first d)
   have hpl:=partL_len (accT first d) f f.length
   have hpf:partF (accT first d) f=canonicalF (partL (accT first d) f f.length) 0:=rfl
   refine frzE [44] ?_
   have htl:(partL (accT first d) f f.length).take f.length=partL (accT first d) f f.length:=List.take_of_length_le (Nat.le_of_eq hpl)
   rw [hpf]
   rw [htl]
   generalize partL (accT first d) f f.length=g at *
   repeat' (first | exact trivial | refine eS rfl ?_ | refine ev_out_inv ?_ | refine rX [0,1,2,4,5,6,7,8,10,12,13,14,15,23,24,25,26,32] hc ?_ ?_ | (refine rC (fun hcond=>?_) (fun hcond=>?_)<;>try (cases hcond;done)))
   ·exact ⟨hg1,hg2,by exact eV⟩
   ·exact ev_finM hc [.cell 4 25] rfl (.inl rfl) (.p T25 (canonicalF g 0)) eT rfl
def pdepthF (f:List GNode) (d:Int):List GNode:=partF (accT (firstF f) d) f
def pdepthS:Spec:={ ins:=[T25,T3],pre:=fun (f,_,_)=>GoodF f∧SrtF f∧0 < List.length f,out:=fun (f,d,_)=>[.p T25 (pdepthF f d)] }
theorem firstF_len {f:List GNode} (hf:GoodF f) (h0:0 < f.length):(firstF f).length=f.length:=by
 obtain ⟨n,hj,hn⟩:∃ n,(∀ j,j < n→j < (bst f j).2.2.length)∧(bst f n).2.2.length≤n:=by
  have key:∀ m n,m + n=f.length + 1→(∀ j,j < n→j < (bst f j).2.2.length)→∃ n,(∀ j,j < n→j < (bst f j).2.2.length)∧(bst f n).2.2.length≤n:=by
   intro m
   induction m with
   | zero =>
    intro n hn hj
    have h1:=hj f.length (by omega)
    have h2:=(bst_BI hf h0 f.length).ok.cnt
    omega
   | succ m ih =>
    intro n hn hj
    by_cases h:(bst f n).2.2.length≤n
    ·exact ⟨n,hj,h⟩
    ·exact ih (n + 1) (by omega) fun j hj'=>(Nat.lt_succ_iff_lt_or_eq.1 hj').elim (hj j) (fun e=>by rw [e];omega)
  exact key (f.length + 1) 0 (by omega) (fun j hj=>by omega)
 rw [← coll_first hf h0 hj hn,coll_len]
theorem pdepth_ok:FnOk Try.prog 39 pdepthS:=by
 refine fn_ok Try.func39 (by kernel_rfl) rfl Try.ntmps39 (by decide) (by kernel_rfl) (tyTab_ok []) fns_nil ?_
 rintro w0 O0 ⟨f,d,u⟩ hc - ⟨hf,hs,h0⟩
 simp only [pdepthS,entEnv]
 have hfl:=firstF_len hf h0
 repeat' (first | exact trivial | refine eS rfl ?_ | refine ev_out_inv ?_ | refine rX [0,1,2,3,4,5] hc ?_ ?_ | (refine rC (fun hcond=>?_) (fun hcond=>?_)<;>try (cases hcond;done)))
 refine cP 1 hc ?_ ?_
 ·trivial
 ·refine rM hc (pfirst_ok f hf h0) [] [] ?_ ?_ ?_
  ·first | exact eN | refine eM ?_
  ·first | exact eN | refine eM ?_
  ·rintro _ _ ⟨rfl,rfl⟩
   refine ⟨[(9,.nm 9)],.sr 9 T41 0 (List.length f),[(9,.arr 41 T41 (firstF f))],rfl,rfl,?_,?_,rfl,rfl,?_⟩
   ·first | exact eN | refine eM ?_
   ·first | exact eN | refine eM ?_
   ·refine rL [2,3,4,5] hc ?_ ?_
    ·trivial
    ·refine frzE [9] ?_
     have htk:(firstF f).take (List.length f)=firstF f:=List.take_of_length_le (by exact eV)
     rw [htk]
     repeat' (first | exact trivial | refine eS rfl ?_ | refine ev_out_inv ?_ | refine rX [0,1,2,3,4,5] hc ?_ ?_ | (refine rC (fun hcond=>?_) (fun hcond=>?_)<;>try (cases hcond;done)))
     refine cP 2 hc ?_ ?_
     ·trivial
     ·refine rM hc (partT_ok f hf hs h0 (firstF f) d hfl) [(1,.nm 5),(3,.nm 3)] [5,3] ?_ ?_ ?_
      ·first | exact eN | refine eM ?_
      ·first | exact eN | refine eM ?_
      ·rintro _ _ rfl
       refine ⟨[],.p T25 (pdepthF f d),[],rfl,rfl,trivial,?_,rfl,rfl,?_⟩
       ·unfold pdepthF
        first | exact eN | refine eM ?_
       ·refine rL [4] hc ?_ ?_
        ·trivial
        ·repeat' (first | exact trivial | refine eS rfl ?_ | refine ev_out_inv ?_ | refine rX [0,1,2,3,4,5] hc ?_ ?_ | (refine rC (fun hcond=>?_) (fun hcond=>?_)<;>try (cases hcond;done)))
         exact ev_fin hc [.cell 4 25] rfl (.inl rfl) (by simp) (by first | exact eR | refine eRM ?_)
end
end Go.Proofs.Ytebfihindnhccaa.Fw
