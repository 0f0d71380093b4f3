/- Contracts of the program's and the reference's functions, and the plain laws of what they compute: R07b R07c R07d R07e Sorted R07f R07g R07h V1 V2 V3 C1 C2 C9 C10 C11 C12 C13 C3 C4 C5 C6 C7 C8 C14 C15 C16 C17 C18 C19 C20 C21 C22 C23 N1. -/
/- Functions of grammarlabref07: arcs. -/
import Derived.Test.YtebfihindnhccaaGreatZJ
set_option linter.unusedVariables false
set_option linter.unusedSimpArgs false
namespace Go.Proofs.YtebfihindnhccaaGreat.Fw
open Go
attribute [local irreducible] Ev
attribute [local go_sem] cx_tb entEnv List.toList_toArray evSeq evG evK vcK guardOf guardT guardB_true guardB_false step1 step0 stepQ takesIn namesParts namesOf namesStore frzAll frz frz1 fixN frzEnv frzObjs drpEnv drpObjs AV.frz AV.frzs AV.drp AV.drps AV.names AV.namess aq qmap qPick qAlloc qBox qBuild qBuildSlice qBuildSlice2 qLoad qLoadB qLoadB2 qLoadE qLoadE2 qLoadE3 qFieldI qOff qPart qField qIndexA qIndex qIndexS qNil qBin qUn qConv qMake qMake2 qSlice qExtract qLen qAppend qAppend2 qAppend3 qMin qMax qCall qCall2 qCall3 qBuiltin qCallee aloud lStoreD lStore lStoreB lStoreB2 lStoreE lStoreE3 lStoreE4 namesStore isNest asA ninT qLoadN qBuildS qNest1 qNest2 qNest3 lNin2 lNin3 lNin4 lBackS lBack2 lBack3 lJoin lJoin2 lJoin3 lNew lNew2 lNew3 AV.trn AV.trns trnEnv trnObjs Obj.trn appN2 stoN lCallee lBuiltin lAppend lAppend2 lAppend3 lAppend4 opv lk constAV optAV sliceQ bin binI binS binB boolT zf1 zfs pfs AV.cells nthOff loadB offB storeB notAg fitsT fitsO Ty.cell1 fieldOk partsT partsAg argsT asT asT1 asTs pairO srT castTo_self getF setF getP setP offP offF fldT rvAV rvObj rvAVs rvObjs resAV RV.flat Ty.flat Ty.size St.add upd del fresh Value.oneCell' refZ Ty.dflt sub_all sub_one sub_take sub_end List.take_succ_cons List.take_zero List.length_cons cast0 castS sub_app take_app sub_app1 take_app1 take_one1 natC zero_le_natC i64_min i64_max u64_min u64_max u8_min u8_max inK_i64 inK_u64 inK_u8 Option.map_some Option.map_none Option.bind_some Option.getD_some Option.getD_none Option.isNone_none Option.isNone_some Bool.and_true Bool.true_and Bool.and_false Bool.false_and Bool.not_true Bool.not_false if_true if_false List.length_cons List.length_nil and_true true_and and_self List.all_cons List.all_nil List.append_nil List.nil_append List.cons_append List.getElem?_cons_zero List.getElem?_cons_succ List.getElem?_nil List.map_cons List.map_nil List.set_cons_zero List.set_cons_succ List.isEmpty_nil List.isEmpty_cons decide_true decide_false beq_self_eq_true bne_self_eq_false Nat.zero_add Nat.add_zero Nat.sub_zero Int.toNat_natCast Int.toNat_zero Int.toNat_one List.take_length List.length_append List.length_singleton true_or or_true or_self false_or or_false Ty.agg.injEq Ty.slice.injEq Ty.prod.injEq Ty.int.injEq Option.some.injEq beq_iff_eq evM evMG evMQ opM isPick viewE viewS viewG opTs opTmp consE guardM guardM1 guardM2 sideM sideM2 pickM pickM2 sufB chEq_nil chEq_nc chEq_cn chEq_cons memB dstOf Op.operands Call.operands List.filterMap_cons List.filterMap_nil List.append_eq Bool.cond_false_right Bool.cond_true_left cond_true cond_false implies_true decide_eq_true_eq beq_true beq_false Bool.or_true Bool.or_false Bool.true_or Bool.false_or Option.isSome_some fieldV namesAg namesAgs capNs qClo qClo2 qMakeMap qMakeMap2 qMakeMap3 qLook qLook2 qLook3 qLook4 keyT keyP eqT inB lMapUp lMapUp2 lMapUp3 namesMap argEnv cm_tb List.drop_zero pruneR prune rem1 afterM addDst fgtEnv AV.fgt AV.fgts Obj.fgt restObjs handed memB calleeOf opvs matchArgs matchArg List.any_cons List.any_nil evF evFO evFQ evFK addQ frOk qs List.flatMap_cons List.flatMap_nil List.cons_append tn appN fgtEN List.take_succ_cons List.drop_succ_cons isYl parEnv rangeSt cY_tb marked_tb renOk renIn matchObjs matchEnv matchE matchAV matchAVs matchF matchO pureT
attribute [local go_sem] ty1 ty2 ty3 ty4 ty5 ty9 ty12 ty21 ty22 ty23 ty24 ty25 ty26 ty27 ty28 ty29 ty30 ty31 ty32 ty34 ty35 ty36 ty37 ty38 ty39 ty40 ty41 ty42 ty43 ty44 ty45 ty46 ty47 ty48 ty49 ty50 ty51 ty52 ty53 ty54 ty55 ty56 ty57 ty58 ty59 ty60 ty61 ty62 ty63 ty64 ty65 ty66 ty67 ty68 ty69 ty70 ty71 ty72 ty73 ty74 ty75 ty76 ty77 ty78 ty79 ty81 ty82 ty83 ty84 ty85 ty86 ty87 ty88 ty89 ty90 ty91 ty92 ty93 ty94 ty95 ty96 ty97 ty98 ty99 ty100 ty102 ty103 ty104 ty105 ty106 ty107 ty108 ty110 ty112 ty113 ty114 ty115 ty116 ty117 ty118 ty119 ty120 ty121 ty122 ty123 ty124 ty125 ty126 ty127 ty128 ty129 ty130 ty131 ty132 ty133 ty134 ty135 ty137 ty138 ty140 ty141 ty142 ty143 ty144 ty145 ty146 ty147 ty148 ty150 ty151 ty152 ty153 ty154 ty155 ty156 ty157 ty158 ty159 ty160 ty161 ty162 ty163 ty165 ty166 ty167 ty168 ty169 ty170 ty171 ty172 ty173 ty174 ty175 ty176 ty177 ty178 ty179 ty180 ty181 ty182 ty183 ty184 ty185 ty187 ty188 ty189 ty190 ty191 ty192 ty193 ty194 ty195 ty196 ty198 ty199 ty200 ty201 ty202 ty203 ty204 ty205 ty206 ty207 ty208 ty209 ty210 ty211 ty212 ty213 ty214 ty216 ty217 ty218 ty219 ty220 ty221 ty222 ty223 ty224 ty225 ty226 ty227 ty228 ty229 ty230 ty231 ty232 ty233 ty234 ty235 ty236 ty237 ty239 ty240 ty241 ty242 ty243 ty244 ty245 ty246 ty247 ty248 ty249 ty250 ty251 ty252 ty253 ty254 ty255 ty256 ty257 ty258 ty259 ty260 ty262 ty263 ty264 ty265 ty266 ty267 ty268 ty269 ty270 ty271 ty272 ty273 ty274 ty275 ty276 ty277 ty283 ty286 ty287
set_option maxRecDepth 100000
set_option maxHeartbeats 4000000
section
def arcsG (n:Int) (seen:List (Int×Int)):List (Int×Int)→Int
 | []=>0
 | x :: r=>if x.1 < 0∨x.2 < 0∨n≤x.2 then 2 else if (seen.any fun y=>y.1 == x.1)=true then 4 else arcsG n (seen++[x]) r
def arcsF (l:List (Int×Int)) (n:Int):Int:=arcsG n [] l
def arcsS:Spec:={ ins:=[T86,T3],pre:=fun _=>True,out:=fun (l,n,_)=>[.p T79 (arcsF l n)] }
theorem arcsG_step (n:Int) (l:List (Int×Int)) {k:Nat} (h:k < l.length):arcsG n (l.take k) (l.drop k)=if (l.getD k (0,0)).1 < 0∨(l.getD k (0,0)).2 < 0∨n≤(l.getD k (0,0)).2 then 2 else if ((l.take k).any fun y=>y.1 == (l.getD k (0,0)).1)=true then 4 else arcsG n (l.take (k + 1)) (l.drop (k + 1)):=by
 rw [take_snoc l (0,0) h,List.drop_eq_getElem_cons h,List.getD_eq_getElem?_getD,List.getElem?_eq_getElem h]
 rfl
theorem any_take_succ (l:List (Int×Int)) (f:Int) {k:Nat} (h:k < l.length):((l.take (k + 1)).any fun y=>y.1 == f)=((l.take k).any (fun y=>y.1 == f) || ((l.getD k (0,0)).1 == f)):=by
 rw [take_snoc l (0,0) h,List.any_append];simp
theorem arcs_ok:FnOk Tryz.prog 146 arcsS:=by
 refine fn_ok Tryz.func146 (by kernel_rfl) rfl Tryz.ntmps146 (by decide) (by kernel_rfl) (tyTab_ok []) (fun f sp h=>by simp [lk] at h) ?_
 rintro w0 O0 ⟨l,n,u⟩ hc ⟨⟨hl,-⟩,-⟩ -
 simp only [maxN] at hl
 simp only [arcsS,entEnv]
 repeat' (first | exact trivial | refine eS rfl ?_ | refine ev_out_inv ?_ | refine rX [0,1,4,5,6,10,35,38,51] hc ?_ ?_ | (refine rC (fun hcond=>?_) (fun hcond=>?_)<;>try (cases hcond;done)))
 refine ev_loop (ι:={k:Nat // k≤l.length∧arcsG n (l.take k) (l.drop k)=arcsF l n}) (fun k=>⟨[(0,.p T86 l),(1,.p T3 n),(5,.p (.int .i64) (k.1:Int))],[]⟩) (fun k=>l.length - k.1) ⟨0,by simp [arcsF]⟩ (ent_match [] rfl rfl ?_ ?_) (fun k=>?_)
 ·first | exact eN | refine eM ?_
 ·first | exact eN | refine eM ?_
 ·obtain ⟨k,hk,hall⟩:=k
  repeat' (first | exact trivial | refine eS rfl ?_ | refine ev_out_inv ?_ | refine rX [0,1,4,5,6,10,35,38,51] hc ?_ ?_ | (refine rC (fun hcond=>?_) (fun hcond=>?_)<;>try (cases hcond;done)))
  ·exact eV
  ·have hk:k < l.length:=by exact eV
   have h1:arcsF l n=2:=by
    rw [← hall,arcsG_step n l hk,if_pos (by rw [← or_assoc];exact hcond)]
   exact ev_fin hc [.tmp 4] rfl (.inl rfl) (by simp) (by rw [h1];first | exact eR | refine eRM ?_)
  ·have hk:k < l.length:=by exact eV
   have hn:¬ ((l.getD k (0,0)).1 < 0∨(l.getD k (0,0)).2 < 0∨n≤(l.getD k (0,0)).2):=by
    have:=hcond
    generalize l.getD k (0,0)=x at this
    exact eV
   rw [arcsG_step n l hk,if_neg hn] at hall
   refine ev_loop (ι:={j:Nat // j≤k∧((l.take j).any fun y=>y.1 == (l.getD k (0,0)).1)=false}) (fun j=>⟨[(0,.p T86 l),(1,.p T3 n),(5,.p (.int .i64) (k:Int)),(6,.p (.int .i64) (j.1:Int))],[]⟩) (fun j=>k - j.1) ⟨0,by simp⟩ (ent_match [] rfl rfl ?_ ?_) (fun j=>?_)
   ·first | exact eN | refine eM ?_
   ·first | exact eN | refine eM ?_
   ·obtain ⟨j,hj,hany⟩:=j
    repeat' (first | exact trivial | refine eS rfl ?_ | refine ev_out_inv ?_ | refine rX [0,1,4,5,6,10,35,38,51] hc ?_ ?_ | (refine rC (fun hcond=>?_) (fun hcond=>?_)<;>try (cases hcond;done)))
    ·exact eV
    ·have hjl:j < l.length:=by exact eV
     have h1:arcsF l n=4:=by
      have h2:((l.take k).any fun y=>y.1 == (l.getD k (0,0)).1)=true:=by
       rw [List.any_eq_true]
       refine ⟨l.getD j (0,0),?_,by simpa using hcond⟩
       rw [List.getD_eq_getElem?_getD,List.getElem?_eq_getElem hjl]
       exact List.mem_take_iff_getElem.2 ⟨j,by exact eV,rfl⟩
      rw [← hall,if_pos h2]
     exact ev_fin hc [.tmp 4] rfl (.inl rfl) (by simp) (by rw [h1];first | exact eR | refine eRM ?_)
    ·exact eV
    ·have hjl:j < l.length:=by exact eV
     refine ⟨⟨j + 1,by exact eV,?_⟩,by simp only;exact eV,ent_match [] rfl rfl ?_ ?_⟩
     ·have h2:=any_take_succ l (l.getD k (0,0)).1 hjl
      refine h2.trans ?_
      rw [hany]
      simpa using hcond
     ·first | exact eN | refine eM ?_
     ·first | exact eN | refine eM ?_
    ·exact eV
    ·have hjk:j=k:=by exact eV
     subst hjk
     refine ⟨⟨j + 1,by exact eV,?_⟩,by simp only;exact eV,ent_match [] rfl rfl ?_ ?_⟩
     ·rw [← hall,if_neg (by rw [hany];simp)]
     ·first | exact eN | refine eM ?_
     ·first | exact eN | refine eM ?_
  ·have h1:arcsF l n=0:=by
    have hk:l.length≤k:=by exact eV
    rw [← hall,List.drop_eq_nil_of_le hk];rfl
   exact ev_fin hc [.tmp 4] rfl (.inl rfl) (by simp) (by rw [h1];first | exact eR | refine eRM ?_)
end
/- Functions of grammarlabref07: numbers. -/
section
def numN (n:Int×List (Int×Int)):List Int:=n.1 :: (n.2.length:Int) :: n.2.flatMap fun a=>[a.1,a.2]
def numbersF (f:List (Int×List (Int×Int))):List Int:=(f.length:Int) :: f.flatMap numN
def numP (l:List (Int×List (Int×Int))) (k:Nat):List Int:=(l.length:Int) :: (l.take k).flatMap numN
def numQ (l:List (Int×List (Int×Int))) (k j:Nat):List Int:=numP l k++[(l.getD k (0,[])).1,((l.getD k (0,[])).2.length:Int)]++((l.getD k (0,[])).2.take j).flatMap fun a=>[a.1,a.2]
theorem pairs_len:∀ l:List (Int×Int),(l.flatMap fun a=>[a.1,a.2]).length=2 * l.length
 | []=>rfl
 | x :: l=>by simp [pairs_len l];omega
theorem numN_len (n:Int×List (Int×Int)):(numN n).length=2 + 2 * n.2.length:=by
 have:=pairs_len n.2
 simp only [numN,List.length_cons];omega
theorem flat_len:∀ l:List (Int×List (Int×Int)),(∀ n∈l,n.2.length≤100000)→(l.flatMap numN).length≤l.length * 200002
 | [],_=>by simp
 | x :: l,h=>by
  have h1:=h x (by simp)
  have h2:=flat_len l (fun n hn=>h n (by simp [hn]))
  have h3:=numN_len x
  simp only [List.flatMap_cons,List.length_append,List.length_cons]
  omega
theorem numP_len {l:List (Int×List (Int×Int))} (h:∀ n∈l,n.2.length≤100000) {k:Nat} (hk:k≤l.length):(numP l k).length≤1 + k * 200002:=by
 have h1:=flat_len (l.take k) (fun n hn=>h n (List.mem_of_mem_take hn))
 rw [List.length_take,Nat.min_eq_left hk] at h1
 simp only [numP,List.length_cons]
 omega
theorem numQ_len {l:List (Int×List (Int×Int))} (h:∀ n∈l,n.2.length≤100000) {k j:Nat} (hk:k < l.length) (hj:j≤(l.getD k (0,[])).2.length):(numQ l k j).length≤3 + k * 200002 + 2 * j:=by
 have h1:=numP_len h (Nat.le_of_lt hk)
 have h2:=pairs_len ((l.getD k (0,[])).2.take j)
 rw [List.length_take,Nat.min_eq_left hj] at h2
 simp only [numQ,List.length_append,List.length_cons,List.length_nil]
 omega
theorem numP_succ {l:List (Int×List (Int×Int))} {k:Nat} (hk:k < l.length):numP l (k + 1)=numQ l k (l.getD k (0,[])).2.length:=by
 unfold numP numQ
 rw [take_snoc l (0,[]) hk,List.flatMap_append,List.take_length]
 simp [numN,numP]
theorem numQ_succ {l:List (Int×List (Int×Int))} {k j:Nat} (hj:j < (l.getD k (0,[])).2.length):numQ l k (j + 1)=numQ l k j++[((l.getD k (0,[])).2.getD j (0,0)).1,((l.getD k (0,[])).2.getD j (0,0)).2]:=by
 unfold numQ
 rw [take_snoc _ (0,0) hj,List.flatMap_append]
 simp
def numbersS:Spec:={ ins:=[T25],pre:=fun (f,_)=>f.length≤100000∧∀ n∈f,n.2.length≤100000,out:=fun (f,_)=>[.p T40 (numbersF f)] }
theorem numbers_ok:FnOk Tryz.prog 108 numbersS:=by
 refine fn_ok Tryz.func108 (by kernel_rfl) rfl Tryz.ntmps108 (by decide) (by kernel_rfl) (tyTab_ok []) fns_nil ?_
 rintro w0 O0 ⟨l,u⟩ hc ⟨hl,-⟩ ⟨hp1,hp2⟩
 simp only [numbersS,entEnv]
 repeat' (first | exact trivial | refine eS rfl ?_ | refine ev_out_inv ?_ | refine rX [0,1,2,3,4,5,6,15,38] hc ?_ ?_ | (refine rC (fun hcond=>?_) (fun hcond=>?_)<;>try (cases hcond;done)))
 refine ev_loop (ι:={k:Nat // k≤l.length}) (fun k=>⟨[(0,.p T25 l),(1,.bp 1 [] 0),(3,.sr 10 T3 0 (numP l k.1).length),(4,.p (.int .i64) (k.1:Int))],[(1,.box 25 true [.p T23 l]),(10,.arr 3 T3 (numP l k.1))]⟩) (fun k=>l.length - k.1) ⟨0,by simp⟩ (ent_match [(1,.nm 1),(10,.nm 10)] rfl rfl ?_ ?_) (fun k=>?_)
 ·first | exact eN | refine eM ?_
  rfl
 ·first | exact eN | refine eM ?_
  rfl
 ·obtain ⟨k,hk⟩:=k
  have hn1:=numP_len hp2 hk
  repeat' (first | exact trivial | refine eS rfl ?_ | refine ev_out_inv ?_ | refine rX [0,1,2,3,4,5,6,15,38] hc ?_ ?_ | (refine rC (fun hcond=>?_) (fun hcond=>?_)<;>try (cases hcond;done)))
  ·exact eV
  ·refine ⟨by exact eV,?_⟩
   simp only [maxN];exact eV
  ·have hkl:k < l.length:=by exact eV
   have hp3:=hp2 _ (mem_of_take_succ l (0,[]) hkl)
   refine ev_loop (ι:={j:Nat // j≤(l.getD k (0,[])).2.length}) (fun j=>⟨[(0,.p T25 l),(1,.bp 1 [] 0),(3,.sr 10 T3 0 (numQ l k j.1).length),(4,.p (.int .i64) (k:Int)),(5,.p T86 (l.getD k (0,[])).2),(6,.p (.int .i64) (j.1:Int))],[(1,.box 25 true [.p T23 l]),(10,.arr 3 T3 (numQ l k j.1))]⟩) (fun j=>(l.getD k (0,[])).2.length - j.1) ⟨0,by simp⟩ (ent_match [(1,.nm 1),(10,.nm 10)] rfl rfl ?_ ?_) (fun j=>?_)
   ·first | exact eN | refine eM ?_
    simp [numQ]
   ·first | exact eN | refine eM ?_
    simp [numQ]
   ·obtain ⟨j,hj⟩:=j
    have hn2:=numQ_len hp2 hkl hj
    repeat' (first | exact trivial | refine eS rfl ?_ | refine ev_out_inv ?_ | refine rX [0,1,2,3,4,5,6,15,38] hc ?_ ?_ | (refine rC (fun hcond=>?_) (fun hcond=>?_)<;>try (cases hcond;done)))
    ·refine ⟨by exact eV,by exact eV,?_⟩
     simp only [maxN];exact eV
    ·exact eV
    ·have hjl:j < (l.getD k (0,[])).2.length:=by exact eV
     refine ⟨⟨j + 1,by exact eV⟩,by simp only;exact eV,ent_match [(1,.nm 1),(10,.nm 10)] rfl rfl ?_ ?_⟩
     ·first | exact eN | refine eM ?_
      exact (numQ_succ hjl).symm
     ·first | exact eN | refine eM ?_
      have:=congrArg List.length (numQ_succ (l:=l) hjl)
      rw [List.length_append] at this
      exact this.symm
    ·exact eV
    ·have hjk:j=(l.getD k (0,[])).2.length:=by exact eV
     subst hjk
     refine ⟨⟨k + 1,by exact eV⟩,by simp only;exact eV,ent_match [(1,.nm 1),(10,.nm 10)] rfl rfl ?_ ?_⟩
     ·first | exact eN | refine eM ?_
      exact (numP_succ hkl).symm
     ·first | exact eN | refine eM ?_
      exact congrArg List.length (numP_succ hkl).symm
  ·have hk:l.take k=l:=List.take_of_length_le (by exact eV)
   have h1:numP l k=numbersF l:=by unfold numP numbersF;rw [hk]
   exact ev_fin hc [.tmp 2] rfl (.inl rfl) (by simp) (by first | exact eR | refine eRM ?_;exact h1)
end
/- Functions of grammarlabref07: Compare, Equal. -/
section
attribute [local go_sem] numbersS
def cmpL:List Int→List Int→Int
 | x :: xs,y :: ys=>if x < y then -1 else if y < x then 1 else cmpL xs ys
 | _,_=>0
theorem cmpL_step (xs ys:List Int) {k:Nat} (h1:k < xs.length) (h2:k < ys.length):cmpL (xs.drop k) (ys.drop k)=if xs.getD k 0 < ys.getD k 0 then -1 else if ys.getD k 0 < xs.getD k 0 then 1 else cmpL (xs.drop (k + 1)) (ys.drop (k + 1)):=by
 rw [List.drop_eq_getElem_cons h1,List.drop_eq_getElem_cons h2,List.getD_eq_getElem?_getD,List.getElem?_eq_getElem h1,List.getD_eq_getElem?_getD,List.getElem?_eq_getElem h2]
 rfl
theorem cmpL_end (xs ys:List Int) {k:Nat} (h:xs.length≤k∨ys.length≤k):cmpL (xs.drop k) (ys.drop k)=0:=by
 rcases h with h | h
 ·rw [List.drop_eq_nil_of_le h];simp [cmpL]
 ·rw [List.drop_eq_nil_of_le h];simp [cmpL]
def compareF (a b:List (Int×List (Int×Int))):Int:=cmpL (numbersF a) (numbersF b)
def SmallF (f:List (Int×List (Int×Int))):Prop:=f.length≤100000∧∀ n∈f,n.2.length≤100000
def compareS:Spec:={ ins:=[T25,T25],pre:=fun (a,b,_)=>SmallF a∧SmallF b,out:=fun (a,b,_)=>[.p T3 (compareF a b)] }
theorem numbersF_len {f:List (Int×List (Int×Int))} (h:SmallF f):(numbersF f).length≤1 + f.length * 200002:=by
 have:=flat_len f h.2
 simp only [numbersF,List.length_cons];omega
theorem compare_ok:FnOk Tryz.prog 69 compareS:=by
 refine fn_ok Tryz.func69 (by kernel_rfl) rfl Tryz.ntmps69 (by decide) (by kernel_rfl) (tyTab_ok [(108,numbersS)]) (fns_cons numbers_ok fns_nil) ?_
 rintro w0 O0 ⟨a,b,u⟩ hc - ⟨⟨ha1,ha2⟩,⟨hb1,hb2⟩⟩
 have hla:=numbersF_len ⟨ha1,ha2⟩
 have hlb:=numbersF_len ⟨hb1,hb2⟩
 simp only [compareS,entEnv]
 repeat' (first | exact trivial | refine eS rfl ?_ | refine ev_out_inv ?_ | refine rX [0,1,2,3,4,5,6,7,21,32,41] hc ?_ ?_ | (refine rC (fun hcond=>?_) (fun hcond=>?_)<;>try (cases hcond;done)))
 ·exact ⟨ha1,ha2⟩
 ·exact ⟨hb1,hb2⟩
 ·refine ev_loop (ι:={k:Nat // cmpL ((numbersF a).drop k) ((numbersF b).drop k)=compareF a b}) (fun k=>⟨[(5,.p T40 (numbersF a)),(6,.p T40 (numbersF b)),(7,.p (.int .i64) (k.1:Int))],[]⟩) (fun k=>(numbersF a).length - k.1) ⟨0,by simp [compareF]⟩ (ent_match [] rfl rfl ?_ ?_) (fun k=>?_)
  ·first | exact eN | refine eM ?_
  ·first | exact eN | refine eM ?_
  ·obtain ⟨k,hk⟩:=k
   repeat' (first | exact trivial | refine eS rfl ?_ | refine ev_out_inv ?_ | refine rX [0,1,2,3,4,5,6,7,21,32,41] hc ?_ ?_ | (refine rC (fun hcond=>?_) (fun hcond=>?_)<;>try (cases hcond;done)))
   ·exact eV
   ·obtain ⟨h1,h2⟩:k < (numbersF a).length∧k < (numbersF b).length:=by exact eV
    have h3:compareF a b=-1:=by rw [← hk,cmpL_step _ _ h1 h2,if_pos hcond]
    exact ev_fin hc [.tmp 4] rfl (.inl rfl) (by simp) (by rw [h3];first | exact eR | refine eRM ?_)
   ·exact eV
   ·obtain ⟨h1,h2⟩:k < (numbersF a).length∧k < (numbersF b).length:=by exact eV
    have h3:compareF a b=1:=by rw [← hk,cmpL_step _ _ h1 h2,if_neg (by exact eV),if_pos hcond]
    exact ev_fin hc [.tmp 4] rfl (.inl rfl) (by simp) (by rw [h3];first | exact eR | refine eRM ?_)
   ·exact eV
   ·obtain ⟨h1,h2⟩:k < (numbersF a).length∧k < (numbersF b).length:=by exact eV
    refine ⟨⟨k + 1,?_⟩,by simp only;exact eV,ent_match [] rfl rfl ?_ ?_⟩
    ·rw [← hk,cmpL_step _ _ h1 h2,if_neg (by exact eV),if_neg (by exact eV)]
    ·first | exact eN | refine eM ?_
    ·first | exact eN | refine eM ?_
   ·have h3:compareF a b=0:=by
     rw [← hk]
     apply cmpL_end
     by_cases h:k < (numbersF a).length
     ·right;have:=hcond (by exact eV);exact eV
     ·left;exact eV
    exact ev_fin hc [.tmp 4] rfl (.inl rfl) (by simp) (by rw [h3];first | exact eR | refine eRM ?_)
def equalS:Spec:={ ins:=[T25,T25],pre:=fun (a,b,_)=>SmallF a∧SmallF b,out:=fun (a,b,_)=>[.p .bool (compareF a b == 0)] }
end
/- Functions of grammarlabref07: Equal, form. -/
section
attribute [local go_sem] compareS arcsS
theorem equal_ok:FnOk Tryz.prog 20 equalS:=by
 refine fn_ok Tryz.func20 (by kernel_rfl) rfl Tryz.ntmps20 (by decide) (by kernel_rfl) (tyTab_ok [(69,compareS)]) (fns_cons compare_ok fns_nil) ?_
 rintro w0 O0 ⟨a,b,u⟩ hc - hpre
 simp only [equalS,entEnv]
 repeat' (first | exact trivial | refine eS rfl ?_ | refine ev_out_inv ?_ | refine rX [0,1,2,3,4] hc ?_ ?_ | (refine rC (fun hcond=>?_) (fun hcond=>?_)<;>try (cases hcond;done)))
 ·exact hpre
 ·exact ev_fin hc [.tmp 4] rfl (.inl rfl) (by simp) (by first | exact eR | refine eRM ?_)
def formG (m:Int):List (Int×List (Int×Int))→Int
 | []=>0
 | n :: r=>if n.1 < 0 then 2 else if arcsF n.2 m≠0 then arcsF n.2 m else formG m r
def formF (f:List (Int×List (Int×Int))):Int:=if f.length=0 then 1 else if 4096 < f.length then 7 else formG f.length f
def formS:Spec:={ ins:=[T25],pre:=fun _=>True,out:=fun (f,_)=>[.p T79 (formF f)] }
theorem formG_step (m:Int) (l:List (Int×List (Int×Int))) {k:Nat} (h:k < l.length):formG m (l.drop k)=if (l.getD k (0,[])).1 < 0 then 2 else if arcsF (l.getD k (0,[])).2 m≠0 then arcsF (l.getD k (0,[])).2 m else formG m (l.drop (k + 1)):=by
 rw [List.drop_eq_getElem_cons h,List.getD_eq_getElem?_getD,List.getElem?_eq_getElem h]
 rfl
theorem form_ok:FnOk Tryz.prog 110 formS:=by
 refine fn_ok Tryz.func110 (by kernel_rfl) rfl Tryz.ntmps110 (by decide) (by kernel_rfl) (tyTab_ok [(146,arcsS)]) (fns_cons arcs_ok fns_nil) ?_
 rintro w0 O0 ⟨l,u⟩ hc ⟨hl,-⟩ -
 simp only [formS,entEnv]
 repeat' (first | exact trivial | refine eS rfl ?_ | refine ev_out_inv ?_ | refine rX [0,1,2,3,4,8,12,17,26,38] hc ?_ ?_ | (refine rC (fun hcond=>?_) (fun hcond=>?_)<;>try (cases hcond;done)))
 ·have h1:formF l=1:=by
   have h:l.length=0:=by exact eV
   unfold formF
   rw [if_pos h]
  exact ev_fin hc [.tmp 2] rfl (.inl rfl) (by simp) (by rw [h1];first | exact eR | refine eRM ?_)
 ·have h1:formF l=7:=by
   have h:¬ l.length=0:=by exact eV
   have h':4096 < l.length:=by exact eV
   unfold formF
   rw [if_neg h,if_pos h']
  exact ev_fin hc [.tmp 2] rfl (.inl rfl) (by simp) (by rw [h1];first | exact eR | refine eRM ?_)
 ·have h1:formF l=formG l.length l:=by
   have h:¬ l.length=0:=by exact eV
   have h':¬ 4096 < l.length:=by exact eV
   unfold formF
   rw [if_neg h,if_neg h']
  refine ev_loop (ι:={k:Nat // k≤l.length∧formG l.length (l.drop k)=formF l}) (fun k=>⟨[(1,.bp 1 [] 0),(3,.p (.int .i64) (k.1:Int))],[(1,.box 25 true [.p T23 l])]⟩) (fun k=>l.length - k.1) ⟨0,by simp [h1]⟩ (ent_match [(1,.nm 1)] rfl rfl ?_ ?_) (fun k=>?_)
  ·first | exact eN | refine eM ?_
  ·first | exact eN | refine eM ?_
  ·obtain ⟨k,hk,hf⟩:=k
   repeat' (first | exact trivial | refine eS rfl ?_ | refine ev_out_inv ?_ | refine rX [0,1,2,3,4,8,12,17,26,38] hc ?_ ?_ | (refine rC (fun hcond=>?_) (fun hcond=>?_)<;>try (cases hcond;done)))
   ·exact eV
   ·have hkl:k < l.length:=by exact eV
    have h2:formF l=2:=by rw [← hf,formG_step _ _ hkl,if_pos hcond]
    exact ev_fin hc [.tmp 2] rfl (.inl rfl) (by simp) (by rw [h2];first | exact eR | refine eRM ?_)
   ·exact eV
   ·have hkl:k < l.length:=by exact eV
    have h2:formF l=arcsF (l.getD k (0,[])).2 l.length:=by rw [← hf,formG_step _ _ hkl,if_neg (by exact eV),if_pos hcond]
    exact ev_fin hc [.tmp 2] rfl (.inl rfl) (by simp) (by rw [h2];first | exact eR | refine eRM ?_)
   ·exact eV
   ·have hkl:k < l.length:=by exact eV
    refine ⟨⟨k + 1,by exact eV,?_⟩,by simp only;exact eV,ent_match [(1,.nm 1)] rfl rfl ?_ ?_⟩
    ·rw [← hf,formG_step _ _ hkl,if_neg (by exact eV),if_neg (by simpa using hcond)]
    ·first | exact eN | refine eM ?_
    ·first | exact eN | refine eM ?_
   ·have h2:formF l=0:=by
     have hk:l.length≤k:=by exact eV
     rw [← hf,List.drop_eq_nil_of_le hk];rfl
    exact ev_fin hc [.tmp 2] rfl (.inl rfl) (by simp) (by rw [h2];first | exact eR | refine eRM ?_)
end
/- The contract of functions of the program: Sorted. -/
section
def posF (x:Int×Int) (s:List (Int×Int)):Nat→Nat
 | 0=>0
 | n + 1=>if x.1 < (s.getD n (0,0)).1 then posF x s n else n + 1
def insF (s:List (Int×Int)) (x:Int×Int):List (Int×Int):=s.take (posF x s s.length)++[x]++s.drop (posF x s s.length)
def sortedF (l:List (Int×Int)):List (Int×Int):=l.foldl insF []
theorem posF_le (x:Int×Int) (s:List (Int×Int)):∀ n,posF x s n≤n
 | 0=>Nat.le_refl _
 | n + 1=>by
  unfold posF
  have:=posF_le x s n
  split<;>omega
theorem insF_len (s:List (Int×Int)) (x:Int×Int):(insF s x).length=s.length + 1:=by
 have:=posF_le x s s.length
 simp [insF];omega
theorem sortedF_snoc (l:List (Int×Int)) (x:Int×Int):sortedF (l++[x])=insF (sortedF l) x:=by simp [sortedF]
theorem foldl_insF_len:∀ (l s:List (Int×Int)),(l.foldl insF s).length=s.length + l.length
 | [],s=>by simp
 | x :: l,s=>by simp [foldl_insF_len l,insF_len];omega
theorem sortedF_len (l:List (Int×Int)):(sortedF l).length=l.length:=by simp [sortedF,foldl_insF_len]
def sortedS:Spec:={ ins:=[T86],pre:=fun (l,_)=>l.length≤1000000,out:=fun (l,_)=>[.own 108 T108 (sortedF l)] }
theorem sorted_ok:FnOk Tryz.prog 145 sortedS:=by
 refine fn_ok Tryz.func145 (by kernel_rfl) rfl Tryz.ntmps145 (by decide) (by kernel_rfl) (tyTab_ok []) fns_nil ?_
 rintro w0 O0 ⟨l,u⟩ hc hok hpre
 simp only [sortedS] at hpre
 simp only [sortedS,entEnv]
 repeat' (first | exact trivial | refine eS rfl ?_ | refine ev_out_inv ?_ | refine rX [0,2,3,4,5,6,10,30] hc ?_ ?_ | (refine rC (fun hcond=>?_) (fun hcond=>?_)<;>try (cases hcond;done)))
 refine ev_loop (ι:={p:Nat // p≤l.length}) (fun k=>⟨[(0,.p T86 l),(3,.sr 10 T108 0 (sortedF (l.take k.1)).length),(4,.p (.int .i64) (k.1:Int))],[(10,.arr 108 T108 (sortedF (l.take k.1)))]⟩) (fun k=>l.length - k.1) ⟨0,by omega⟩ (ent_match [(10,.nil)] rfl rfl ?_ ?_) (fun k=>?_)
 ·first | exact eN | refine eM ?_
  rfl
 ·first | exact eN | refine eM ?_
  rfl
 ·obtain ⟨k,hI⟩:=k
  have hlen:(sortedF (l.take k)).length=k:=by rw [sortedF_len,List.length_take];exact Nat.min_eq_left hI
  repeat' (first | exact trivial | refine eS rfl ?_ | refine ev_out_inv ?_ | refine rX [0,2,3,4,5,6,10,30] hc ?_ ?_ | (refine rC (fun hcond=>?_) (fun hcond=>?_)<;>try (cases hcond;done)))
  ·refine ev_loop (ι:={q:Nat // q≤(sortedF (l.take k)).length∧posF (l.getD k (0,0)) (sortedF (l.take k)) q=posF (l.getD k (0,0)) (sortedF (l.take k)) (sortedF (l.take k)).length}) (fun q=>⟨[(0,.p T86 l),(3,.sr 10 T108 0 (sortedF (l.take k)).length),(4,.p (.int .i64) (k:Int)),(5,.p (.int .i64) (q.1:Int))],[(10,.arr 108 T108 (sortedF (l.take k)))]⟩) (fun q=>q.1) ⟨(sortedF (l.take k)).length,by simp⟩ (ent_match [(10,.nm 10)] rfl rfl ?_ ?_) (fun q=>?_)
   ·first | exact eN | refine eM ?_
   ·first | exact eN | refine eM ?_
   ·obtain ⟨q,hq,hp⟩:=q
    have hkl:k < l.length:=by omega
    have e1:=l.length_take_le k
    have e2:(List.take q (sortedF (List.take k l))).length=q:=by rw [List.length_take];exact Nat.min_eq_left hq
    repeat' (first | exact trivial | refine eS rfl ?_ | refine ev_out_inv ?_ | refine rX [0,2,3,4,5,6,10,30] hc ?_ ?_ | (refine rC (fun hcond=>?_) (fun hcond=>?_)<;>try (cases hcond;done)))
    ·exact eV
    ·exact eV
    ·obtain ⟨h1,h2⟩:=hcond
     obtain ⟨q,rfl⟩:∃ r,q=r + 1:=⟨q - 1,by omega⟩
     have h3:((q + 1:Nat):Int) - 1=(q:Int):=by omega
     refine ⟨⟨q,by omega,?_⟩,Nat.lt_succ_self q,ent_match [(10,.nm 10)] rfl rfl ?_ ?_⟩
     ·rw [← hp]
      simp only [posF]
      rw [h3,Int.toNat_natCast] at h2
      rw [if_pos h2]
     ·first | exact eN | refine eM ?_
     ·first | exact eN | refine eM ?_
      show (q:Int) + 1 - 1=q
      omega
    ·refine ⟨by exact eV,?_⟩
     rw [e2];unfold maxN;omega
    ·refine ⟨by exact eV,?_⟩
     rw [e2];simp only [maxN];omega
    ·refine ⟨by exact eV,?_⟩
     rw [e2];simp only [maxN,List.length_drop];omega
    ·exact eV
    ·have hpos:posF (l.getD k (0,0)) (sortedF (l.take k)) q=q:=by
      cases q with
      | zero=>rfl
      | succ q =>
       have h3:((q + 1:Nat):Int) - 1=(q:Int):=by omega
       have:=hcond (by omega)
       rw [h3,Int.toNat_natCast] at this
       simp only [posF]
       rw [if_neg (by omega)]
     have h1:=take_snoc l (0,0) hkl
     have h2:sortedF (l.take (k + 1))=_:=(congrArg sortedF h1).trans (sortedF_snoc _ _)
     unfold insF at h2
     rw [← hp,hpos] at h2
     refine ⟨⟨k + 1,by exact eV⟩,by simp only;exact eV,ent_match [(10,.nm 37)] rfl rfl ?_ ?_⟩
     ·first | exact eN | refine eM ?_
      exact h2.symm
     ·first | exact eN | refine eM ?_
      have h4:=congrArg List.length h2
      rw [List.length_append,List.length_append] at h4
      exact h4.symm
  ·have hk:l.take k=l:=List.take_of_length_le (by exact eV)
   refine ev_fin_own hc (.inl rfl) (rv:=.tmp 2) rfl ?_
   simp only [resIs,resV,ownOf,go_sem,Nat.reduceEqDiff,reduceCtorEq,Nat.reduceAdd,Nat.reduceSub,Nat.reduceMul,Nat.reduceLeDiff,Nat.reduceLT,Int.reduceLE,Int.reduceToNat,Int.reduceNeg,↓reduceIte]
   rw [hk]
   first | rfl | exact ⟨rfl,rfl⟩ | exact ⟨rfl,rfl,rfl⟩
end
/- Functions of grammarlabref07: visit. -/
section
attribute [local go_sem] sortedS
abbrev GNode:=Int×List (Int×Int)
def visitF (f:List GNode):Nat→List Int×List Int→Int→List Int×List Int
 | 0,s,_=>s
 | k + 1,s,n=>(sortedF (f.getD n.toNat (0,[])).2).foldl (fun s a=>if s.1.getD a.2.toNat 0 < 0 then visitF f k s a.2 else s) (s.1.set n.toNat (s.2.length:Int),s.2++[n])
def negC (l:List Int):Nat:=l.countP (fun x=>decide (x < 0))
def GoodF (f:List GNode):Prop:=f.length≤100000∧∀ x∈f,x.2.length≤100000∧∀ a∈x.2,0≤a.2∧a.2 < (f.length:Int)
def TrOk (f:List GNode) (s:List Int×List Int):Prop:=s.1.length=f.length∧s.2.length + negC s.1≤f.length
theorem negC_set {l:List Int} {n:Nat} {v:Int} (hn:n < l.length) (hneg:l.getD n 0 < 0) (hv:0≤v):negC (l.set n v) + 1=negC l:=by
 induction l generalizing n with
 | nil=>simp at hn
 | cons x r ih =>
  cases n with
  | zero =>
   have hx:x < 0:=by simpa using hneg
   have:¬ v < 0:=by omega
   simp [negC,List.countP_cons,hx,this]
  | succ n =>
   have h1:=ih (n:=n) (by simpa using hn) (by simpa using hneg)
   simp only [negC,List.set_cons_succ,List.countP_cons] at h1 ⊢
   omega
theorem tr_set {f:List GNode} {s:List Int×List Int} {n:Int} (h:TrOk f s) (hn0:0≤n) (hn:n < f.length) (hneg:s.1.getD n.toNat 0 < 0) :
  TrOk f (s.1.set n.toNat (s.2.length:Int),s.2++[n])∧negC (s.1.set n.toNat (s.2.length:Int)) + 1=negC s.1:=by
 obtain ⟨h1,h2⟩:=h
 have h3:=negC_set (l:=s.1) (n:=n.toNat) (v:=(s.2.length:Int)) (by omega) hneg (by omega)
 refine ⟨⟨by simpa using h1,?_⟩,h3⟩
 simp only [List.length_append,List.length_singleton]
 omega
theorem insF_perm (s:List (Int×Int)) (x:Int×Int):(insF s x).Perm (x :: s):=by
 unfold insF
 refine (List.perm_append_comm.append_right _).trans ?_
 simp
theorem foldl_insF_perm:∀ (l s:List (Int×Int)),(l.foldl insF s).Perm (l++s)
 | [],s=>List.Perm.refl _
 | x :: l,s=>by
  refine (foldl_insF_perm l (insF s x)).trans ?_
  refine (List.Perm.append_left l (insF_perm s x)).trans ?_
  exact List.perm_middle
theorem sortedF_perm (l:List (Int×Int)):(sortedF l).Perm l:=by
 have:=foldl_insF_perm l []
 simpa [sortedF] using this
theorem arcs_len {f:List GNode} (hf:GoodF f) (n:Int):List.length (f.getD n.toNat (0,[])).2≤100000:=by
 by_cases h:n.toNat < f.length
 ·have hm:f.getD n.toNat (0,[])∈f:=by
   rw [List.getD_eq_getElem?_getD,List.getElem?_eq_getElem h];exact List.getElem_mem h
  exact (hf.2 _ hm).1
 ·rw [List.getD_eq_getElem?_getD,List.getElem?_eq_none (by omega)]
  simp
theorem arcs_of {f:List GNode} (hf:GoodF f) {n:Int} {a:Int×Int} (ha:a∈sortedF (f.getD n.toNat (0,[])).2):0≤a.2∧a.2 < f.length:=by
 have ha:=(sortedF_perm _).mem_iff.1 ha
 by_cases h:n.toNat < f.length
 ·have hm:f.getD n.toNat (0,[])∈f:=by
   rw [List.getD_eq_getElem?_getD,List.getElem?_eq_getElem h];exact List.getElem_mem h
  exact (hf.2 _ hm).2 a ha
 ·rw [List.getD_eq_getElem?_getD,List.getElem?_eq_none (by omega)] at ha
  simp at ha
def stepV (f:List GNode) (k:Nat) (s:List Int×List Int) (a:Int×Int):List Int×List Int:=if s.1.getD a.2.toNat 0 < 0 then visitF f k s a.2 else s
theorem visitF_succ (f:List GNode) (k:Nat) (s:List Int×List Int) (n:Int):visitF f (k + 1) s n=(sortedF (f.getD n.toNat (0,[])).2).foldl (stepV f k) (s.1.set n.toNat (s.2.length:Int),s.2++[n]):=rfl
theorem fold_ok {f:List GNode} {k:Nat} (hv:∀ (s:List Int×List Int) (n:Int),TrOk f s→0≤n→n < f.length→s.1.getD n.toNat 0 < 0→TrOk f (visitF f k s n)∧negC (visitF f k s n).1≤negC s.1) :
  ∀ (l:List (Int×Int)) (t:List Int×List Int),(∀ a∈l,0≤a.2∧a.2 < (f.length:Int))→TrOk f t→TrOk f (l.foldl (stepV f k) t)∧negC (l.foldl (stepV f k) t).1≤negC t.1
 | [],t,_,ht=>⟨ht,Nat.le_refl _⟩
 | a :: l,t,hl,ht=>by
  simp only [List.foldl_cons]
  by_cases hc:t.1.getD a.2.toNat 0 < 0
  ·obtain ⟨g1,g2⟩:=hv t a.2 ht (hl a (by simp)).1 (hl a (by simp)).2 hc
   have e:stepV f k t a=visitF f k t a.2:=if_pos hc
   rw [e]
   obtain ⟨g3,g4⟩:=fold_ok hv l _ (fun b hb=>hl b (by simp [hb])) g1
   exact ⟨g3,Nat.le_trans g4 g2⟩
  ·have e:stepV f k t a=t:=if_neg hc
   rw [e]
   exact fold_ok hv l t (fun b hb=>hl b (by simp [hb])) ht
theorem visitF_ok {f:List GNode} (hf:GoodF f):∀ (k:Nat) (s:List Int×List Int) (n:Int),TrOk f s→0≤n→n < f.length→s.1.getD n.toNat 0 < 0→TrOk f (visitF f k s n)∧negC (visitF f k s n).1≤negC s.1
 | 0,s,n,h,_,_,_=>⟨h,Nat.le_refl _⟩
 | k + 1,s,n,h,h0,h1,h2=>by
  obtain ⟨h3,h4⟩:=tr_set h h0 h1 h2
  obtain ⟨g1,g2⟩:=fold_ok (visitF_ok hf k) _ _ (fun a ha=>arcs_of hf ha) h3
  rw [visitF_succ]
  exact ⟨g1,by simp only at g2 h4;omega⟩
theorem fold_take {α β:Type} (g:β→α→β) (l:List α) (d:α) (t:β) {i:Nat} (hi:i < l.length):(l.take (i + 1)).foldl g t=g ((l.take i).foldl g t) (l.getD i d):=by
 rw [take_snoc l d hi,List.foldl_append];rfl
def wObjs (f:List GNode) (s:List Int×List Int):List (Nat×Obj):=[(1,.box 205 true [.p T25 f,.sr 2 T3 0 s.1.length,.sr 3 T3 0 s.2.length]),(2,.arr 3 T3 s.1),(3,.arr 3 T3 s.2)]
theorem visit_ok (f:List GNode) (hf:GoodF f):∀ (k:Nat) (s:List Int×List Int) (n:Int),TrOk f s→0≤n→n < f.length→s.1.getD n.toNat 0 < 0→negC s.1≤k →
  CallM Tryz.prog 144 [.bp 1 [] 0,.p T3 n] (wObjs f s) [1] (fun res objs'=>res=.raw (.tuple #[])∧objs'=wObjs f (visitF f k s n)):=by
 intro k
 induction k with
 | zero =>
  intro s n h0 h1 h2 h3 h4
  obtain ⟨_,h5⟩:=tr_set h0 h1 h2 h3
  omega
 | succ k ih =>
  intro s n htr hn0 hn1 hneg hk
  obtain ⟨num,ord⟩:=s
  obtain ⟨htr',hcnt⟩:=tr_set htr hn0 hn1 hneg
  obtain ⟨hl1,hl2⟩:=htr
  simp only at hl1 hl2 hneg htr' hcnt hk
  refine fnM_ok Tryz.func144 (by kernel_rfl) rfl Tryz.ntmps144 (by simp only [List.length_cons,List.length_nil];omega) (by kernel_rfl) rfl rfl (tyTab_ok [(145,sortedS)]) (fns_cons sorted_ok fns_nil) ?_
  intro w0 K O0 ρ0 hc hok1 hok2
  simp only [wObjs,argEnv]
  repeat' (first | exact trivial | refine eS rfl ?_ | refine ev_out_inv ?_ | refine rX [0,1,4,5,40,54] hc ?_ ?_ | (refine rC (fun hcond=>?_) (fun hcond=>?_)<;>try (cases hcond;done)))
  ·exact eV
  ·have:=hf.1
   simp only [maxN];omega
  ·have hm:=arcs_len hf n
   exact ⟨⟨hn0,hn1⟩,Nat.le_trans hm (by omega)⟩
  ·have harcs:=fun a (ha:a∈sortedF (f.getD n.toNat (0,[])).2)=>arcs_of hf ha
   have hLlen:(sortedF (f.getD n.toNat (0,[])).2).length≤100000:=by rw [sortedF_len];exact arcs_len hf n
   generalize hL:sortedF (f.getD n.toNat (0,[])).2=L at harcs hLlen
   generalize hs1:(num.set n.toNat (ord.length:Int),ord++[n])=s1 at htr'
   have hfold:∀ i,TrOk f ((L.take i).foldl (stepV f k) s1)∧negC ((L.take i).foldl (stepV f k) s1).1≤negC s1.1:=fun i=>fold_ok (visitF_ok hf k) _ _ (fun a ha=>harcs a (List.mem_of_mem_take ha)) htr'
   have hn1:num.set n.toNat (ord.length:Int)=s1.1:=by rw [← hs1]
   have ho1:ord++[n]=s1.2:=by rw [← hs1]
   rw [hn1] at hcnt
   refine ev_loop (ι:={i:Nat // i≤L.length}) (fun i=>⟨[(0,.bp 1 [] 0),(1,.p T3 n),(4,.p T86 L),(5,.p (.int .i64) (i.1:Int))],wObjs f ((L.take i.1).foldl (stepV f k) s1)⟩) (fun i=>L.length - i.1) ⟨0,by omega⟩ (frzT [36] (ent_match [(1,.nm 1),(2,.nm 2),(3,.nm 3)] rfl rfl ?_ ?_)) (fun i=>?_)
   ·simp only [wObjs]
    first | exact eN | refine eM ?_
    simp only [List.foldl_nil]
    rw [← hs1]
    simp
   ·first | exact eN | refine eM ?_
   ·obtain ⟨i,hi⟩:=i
    obtain ⟨hti,hci⟩:=hfold i
    have hnext:=fun (h:i < L.length)=>fold_take (stepV f k) L (0,0) s1 h
    generalize hsi:(L.take i).foldl (stepV f k) s1=si at hti hci hnext
    simp only [wObjs]
    repeat' (first | exact trivial | refine eS rfl ?_ | refine ev_out_inv ?_ | refine rX [0,1,4,5,40,54] hc ?_ ?_ | (refine rC (fun hcond=>?_) (fun hcond=>?_)<;>try (cases hcond;done)))
    ·have hiL:i < L.length:=by exact eV
     have:=harcs _ (mem_of_take_succ L (0,0) hiL)
     obtain ⟨h1,h2⟩:=hti
     refine ⟨by exact eV,this.1,?_⟩
     rw [h1]
     exact this.2
    ·have hiL:i < L.length:=by exact eV
     have hr:=harcs _ (mem_of_take_succ L (0,0) hiL)
     refine cP 6 hc ?_ ?_
     ·exact eV
     ·refine rM hc (ih si (L.getD i (0,0)).2 hti hr.1 hr.2 (by simpa using hcond) (by omega)) [(1,.nm 1),(2,.nm 2),(3,.nm 3)] [2,3] ?_ ?_ ?_
      ·first | exact eN | refine eM ?_
      ·simp only [wObjs]
       first | exact eN | refine eM ?_
      ·rintro _ _ ⟨rfl,rfl⟩
       refine ⟨[(1,.nm 1),(2,.nm 2),(3,.nm 3)],.raw (.tuple #[]),wObjs f (visitF f k si (L.getD i (0,0)).2),rfl,rfl,?_,?_,rfl,rfl,evL_end ?_⟩
       ·simp only [wObjs]
        first | exact eN | refine eM ?_
       ·first | exact eN | refine eM ?_
       ·repeat' (first | exact trivial | refine eS rfl ?_ | refine ev_out_inv ?_ | refine rX [0,1,4,5,40,54] hc ?_ ?_ | (refine rC (fun hcond=>?_) (fun hcond=>?_)<;>try (cases hcond;done)))
        ·exact eV
        ·have e:stepV f k si (L.getD i (0,0))=visitF f k si (L.getD i (0,0)).2:=if_pos (by simpa using hcond)
         refine ⟨⟨i + 1,by omega⟩,by simp only;omega,ent_match [(1,.nm 1),(2,.nm 2),(3,.nm 3)] rfl rfl ?_ ?_⟩
         ·simp only [wObjs,hnext hiL,e]
          first | exact eN | refine eM ?_
         ·first | exact eN | refine eM ?_
    ·exact eV
    ·have hiL:i < L.length:=by exact eV
     have e:stepV f k si (L.getD i (0,0))=si:=if_neg (by simpa using hcond)
     refine ⟨⟨i + 1,by omega⟩,by simp only;omega,ent_match [(1,.nm 1),(2,.nm 2),(3,.nm 3)] rfl rfl ?_ ?_⟩
     ·simp only [hnext hiL,e]
      first | exact eN | refine eM ?_
     ·first | exact eN | refine eM ?_
    ·have hk:L.take i=L:=List.take_of_length_le (by exact eV)
     rw [hk] at hsi
     have h1:visitF f (k + 1) (num,ord) n=si:=by rw [visitF_succ,hL,← hsi,← hs1]
     rw [h1]
     exact ev_finM hc [] rfl (.inr rfl) (.raw (.tuple #[])) rfl ⟨rfl,rfl⟩
end
/- Functions of grammarlabref07: From. -/
section
attribute [local go_sem] sortedS
def OrdOk (f:List GNode) (s:List Int×List Int):Prop:=∀ n∈s.2,0≤n∧n < (f.length:Int)
theorem visitF_ord {f:List GNode} (hf:GoodF f):∀ (k:Nat) (s:List Int×List Int) (n:Int),OrdOk f s→0≤n→n < f.length→OrdOk f (visitF f k s n)
 | 0,s,n,h,_,_=>h
 | k + 1,s,n,h,h0,h1=>by
  rw [visitF_succ]
  have key:∀ (l:List (Int×Int)) (t:List Int×List Int),(∀ a∈l,0≤a.2∧a.2 < (f.length:Int))→OrdOk f t→OrdOk f (l.foldl (stepV f k) t):=by
   intro l
   induction l with
   | nil=>intro t _ ht;exact ht
   | cons a l ih =>
    intro t hl ht
    simp only [List.foldl_cons]
    refine ih _ (fun b hb=>hl b (by simp [hb])) ?_
    unfold stepV
    split
    ·exact visitF_ord hf k t a.2 ht (hl a (by simp)).1 (hl a (by simp)).2
    ·exact ht
  refine key _ _ (fun a ha=>arcs_of hf ha) ?_
  intro m hm
  simp only [List.mem_append,List.mem_singleton] at hm
  rcases hm with hm | rfl
  ·exact h m hm
  ·exact ⟨h0,h1⟩
def travF (f:List GNode) (root:Int):List Int×List Int:=visitF f f.length (List.replicate f.length (-1),[]) root
def renA (num:List Int) (a:Int×Int):Int×Int:=(a.1,num.getD a.2.toNat 0)
def nodeF (f:List GNode) (num:List Int) (n:Int):GNode:=((f.getD n.toNat (0,[])).1,(sortedF (f.getD n.toNat (0,[])).2).map (renA num))
def fromF (f:List GNode) (root:Int):List GNode:=(travF f root).2.map (nodeF f (travF f root).1)
theorem negC_rep (m:Nat):negC (List.replicate m (-1))=m:=by
 induction m with
 | zero=>rfl
 | succ m ih=>simp only [negC,List.replicate_succ,List.countP_cons] at ih ⊢;simp [ih]
theorem tr0 (f:List GNode):TrOk f (List.replicate f.length (-1),[]):=⟨by simp,by simp [negC_rep]⟩
theorem rep_neg {f:List GNode} {n:Int} (h0:0≤n) (h1:n < f.length):(List.replicate f.length (-1:Int)).getD n.toNat 0 < 0:=by
 have:n.toNat < f.length:=by omega
 simp [List.getD_eq_getElem?_getD,List.getElem?_replicate,this]
theorem trav_ok {f:List GNode} (hf:GoodF f) {n:Int} (h0:0≤n) (h1:n < f.length):TrOk f (travF f n)∧OrdOk f (travF f n) :=
 ⟨(visitF_ok hf _ _ n (tr0 f) h0 h1 (rep_neg h0 h1)).1,visitF_ord hf _ _ n (fun m hm=>by simp at hm) h0 h1⟩
theorem map_part {α β:Type} (g:α→β) (h:β→α) (L:List α) (d:α) {k:Nat} (hk:k < L.length) (u:α→α):((L.take k).map u++L.drop k).set k (u (L.getD k d))=(L.take (k + 1)).map u++L.drop (k + 1)∧((L.take k).map u++L.drop k).getD k d=L.getD k d:=by
 have h1:((L.take k).map u).length=k:=by simp;omega
 have h2:L.drop k=L.getD k d :: L.drop (k + 1):=by
  rw [List.drop_eq_getElem_cons hk,List.getD_eq_getElem?_getD,List.getElem?_eq_getElem hk];rfl
 constructor
 ·rw [take_snoc L d hk,List.set_append_right _ _ (by omega),h1,Nat.sub_self,h2]
  simp
 ·rw [List.getD_eq_getElem?_getD,List.getElem?_append_right (by omega),h1,Nat.sub_self,h2];rfl
def fromS:Spec:={ ins:=[T25,T3],pre:=fun (f,n,_)=>GoodF f∧0≤n∧n < (List.length f:Int),out:=fun (f,n,_)=>[.p T25 (fromF f n)] }
theorem from_ok:FnOk Tryz.prog 107 fromS:=by
 refine fn_ok Tryz.func107 (by kernel_rfl) rfl Tryz.ntmps107 (by decide) (by kernel_rfl) (tyTab_ok [(145,sortedS)]) (fns_cons sorted_ok fns_nil) ?_
 rintro w0 O0 ⟨f,root,u⟩ hc - ⟨hf,hr0,hr1⟩
 simp only [fromS,entEnv]
 have hfl:=hf.1
 repeat' (first | exact trivial | refine eS rfl ?_ | refine ev_out_inv ?_ | refine rX [0,1,2,4,5,6,7,8,9,10,11,19,40,60] hc ?_ ?_ | (refine rC (fun hcond=>?_) (fun hcond=>?_)<;>try (cases hcond;done)))
 refine ev_loop (ι:={i:Nat // i≤f.length}) (fun i=>⟨[(1,.p T3 root),(2,.bp 2 [] 0),(4,.bp 4 [] 0),(5,.bp 14 [] 0),(6,.p (.int .i64) (i.1:Int))],[(2,.box 25 true [.p T23 f]),(4,.box 25 true [.raw (.slice none 0 0)]),(14,.box 205 true [.p T25 f,.sr 10 T3 0 i.1,.raw (.slice none 0 0)]),(10,.arr 3 T3 (List.replicate i.1 (-1)))]⟩) (fun i=>f.length - i.1) ⟨0,by omega⟩ (ent_match [(2,.nm 2),(4,.nm 4),(14,.nm 14),(10,.nil)] rfl rfl ?_ ?_) (fun i=>?_)
 ·first | exact eN | refine eM ?_
  rfl
 ·first | exact eN | refine eM ?_
 ·obtain ⟨i,hi⟩:=i
  repeat' (first | exact trivial | refine eS rfl ?_ | refine ev_out_inv ?_ | refine rX [0,1,2,4,5,6,7,8,9,10,11,19,40,60] hc ?_ ?_ | (refine rC (fun hcond=>?_) (fun hcond=>?_)<;>try (cases hcond;done)))
  ·simp only [maxN];omega
  ·exact eV
  ·have hi:i < List.length f:=by exact eV
   refine ⟨⟨i + 1,by omega⟩,by simp only;omega,ent_match [(2,.nm 2),(4,.nm 4),(14,.nm 14),(10,.nm 10)] rfl rfl ?_ ?_⟩
   ·first | exact eN | refine eM ?_
    rw [List.replicate_succ']
    simp
   ·first | exact eN | refine eM ?_
  ·have hif:i=List.length f:=by exact eV
   subst hif
   have hvo:=trav_ok hf hr0 hr1
   refine cP 2 hc ?_ ?_
   ·trivial
   ·refine rM hc (visit_ok f hf (List.length f) (List.replicate (List.length f) (-1),[]) root (tr0 f) hr0 hr1 (rep_neg hr0 hr1) (by rw [negC_rep];exact Nat.le_refl _)) [(1,.nm 14),(2,.nm 10),(3,.nil)] [10] ?_ ?_ ?_
    ·first | exact eN | refine eM ?_
    ·simp only [wObjs]
     first | exact eN | refine eM ?_
     simp
    ·rintro _ _ ⟨rfl,rfl⟩
     refine ⟨[(14,.nm 1),(101,.nm 2),(102,.nm 3)],.raw (.tuple #[]),[(14,.box 205 true [.p T25 f,.sr 101 T3 0 (travF f root).1.length,.sr 102 T3 0 (travF f root).2.length]),(101,.arr 3 T3 (travF f root).1),(102,.arr 3 T3 (travF f root).2)],rfl,rfl,?_,?_,rfl,rfl,evL_end ?_⟩
     ·simp only [wObjs,travF]
      first | exact eN | refine eM ?_
     ·first | exact eN | refine eM ?_
     ·have hfrom:fromF f root=(travF f root).2.map (nodeF f (travF f root).1):=rfl
      rw [hfrom]
      generalize travF f root=s at hvo
      obtain ⟨num,ord⟩:=s
      obtain ⟨⟨hn1,hn2⟩,hord⟩:=hvo
      simp only at hn1 hn2
      have hord:∀ n∈ord,0≤n∧n < (List.length f:Int):=hord
      repeat' (first | exact trivial | refine eS rfl ?_ | refine ev_out_inv ?_ | refine rX [0,1,2,4,5,6,7,8,9,10,11,19,40,60] hc ?_ ?_ | (refine rC (fun hcond=>?_) (fun hcond=>?_)<;>try (cases hcond;done)))
      refine ev_loop (ι:={i:Nat // i≤ord.length}) (fun i=>⟨[(2,.bp 2 [] 0),(4,.bp 4 [] 0),(5,.bp 14 [] 0),(7,.bp 7 [] 0),(8,.p (.int .i64) (i.1:Int))],[(2,.box 25 true [.p T23 f]),(4,.box 25 true [.raw (.slice none 0 0)]),(14,.box 205 true [.p T25 f,.sr 101 T3 0 num.length,.sr 102 T3 0 ord.length]),(101,.arr 3 T3 num),(102,.arr 3 T3 ord),(7,.box 25 true [.sr 200 T88 0 i.1]),(200,.arr 88 T88 ((ord.take i.1).map (nodeF f num)))]⟩) (fun i=>ord.length - i.1) ⟨0,by omega⟩ (ent_match [(2,.nm 2),(4,.nm 4),(14,.nm 14),(101,.nm 101),(102,.nm 102),(7,.nm 7),(200,.nil)] rfl rfl ?_ ?_) (fun i=>?_)
      ·first | exact eN | refine eM ?_
      ·first | exact eN | refine eM ?_
      ·obtain ⟨i,hi⟩:=i
       repeat' (first | exact trivial | refine eS rfl ?_ | refine ev_out_inv ?_ | refine rX [0,1,2,4,5,6,7,8,9,10,11,19,40,60] hc ?_ ?_ | (refine rC (fun hcond=>?_) (fun hcond=>?_)<;>try (cases hcond;done)))
       ·have hi:i < ord.length:=by exact eV
        exact ⟨by exact eV,hord _ (mem_of_take_succ ord 0 hi)⟩
       ·exact Nat.le_trans (arcs_len hf _) (by omega)
       ·have hi:i < ord.length:=by exact eV
        have harcs:=fun a (ha:a∈sortedF (f.getD (Int.toNat (ord.getD i 0)) (0,[])).2)=>arcs_of hf ha
        have hnode:nodeF f num (ord.getD i 0)=((f.getD (Int.toNat (ord.getD i 0)) (0,[])).1,(sortedF (f.getD (Int.toNat (ord.getD i 0)) (0,[])).2).map (renA num)):=rfl
        have hxl:=arcs_len hf (ord.getD i 0)
        generalize List.getD f (Int.toNat (ord.getD i 0)) (0,[])=x at *
        obtain ⟨xt,xa⟩:=x
        simp only at harcs hnode hxl
        have hLl:=sortedF_len xa
        generalize sortedF xa=L at *
        refine ev_loop (ι:={k:Nat // k≤L.length}) (fun k=>⟨[(2,.bp 2 [] 0),(4,.bp 4 [] 0),(5,.bp 14 [] 0),(7,.bp 7 [] 0),(8,.p (.int .i64) (i:Int)),(9,.bp 9 [] 0),(10,.sr 56 T108 0 L.length),(11,.p (.int .i64) (k.1:Int))],[(56,.arr 108 T108 ((L.take k.1).map (renA num)++L.drop k.1)),(9,.box 88 true [.p T3 xt,.p T86 xa]),(2,.box 25 true [.p T23 f]),(4,.box 25 true [.raw (.slice none 0 0)]),(14,.box 205 true [.p T25 f,.sr 101 T3 0 num.length,.sr 102 T3 0 ord.length]),(101,.arr 3 T3 num),(102,.arr 3 T3 ord),(7,.box 25 true [.sr 200 T88 0 i]),(200,.arr 88 T88 ((ord.take i).map (nodeF f num)))]⟩) (fun k=>L.length - k.1) ⟨0,by omega⟩ (ent_match [(2,.nm 2),(4,.nm 4),(14,.nm 14),(101,.nm 101),(102,.nm 102),(7,.nm 7),(200,.nm 200),(9,.nm 9),(56,.nm 56)] rfl rfl ?_ ?_) (fun k=>?_)
        ·first | exact eN | refine eM ?_
        ·first | exact eN | refine eM ?_
        ·obtain ⟨k,hk⟩:=k
         repeat' (first | exact trivial | refine eS rfl ?_ | refine ev_out_inv ?_ | refine rX [0,1,2,4,5,6,7,8,9,10,11,19,40,60] hc ?_ ?_ | (refine rC (fun hcond=>?_) (fun hcond=>?_)<;>try (cases hcond;done)))
         ·have hkL:k < L.length:=by exact eV
          have e:=(map_part (renA num) (fun b=>b) L (0,0) hkL (renA num)).2
          rw [e]
          have:=harcs _ (mem_of_take_succ L (0,0) hkL)
          rw [hn1]
          exact ⟨by exact eV,this,by exact eV⟩
         ·exact eV
         ·have hkL:k < L.length:=by exact eV
          have e:=map_part (renA num) (fun b=>b) L (0,0) hkL (renA num)
          refine ⟨⟨k + 1,by omega⟩,by simp only;omega,ent_match [(2,.nm 2),(4,.nm 4),(14,.nm 14),(101,.nm 101),(102,.nm 102),(7,.nm 7),(200,.nm 200),(9,.nm 9),(56,.nm 56)] rfl rfl ?_ ?_⟩
          ·first | exact eN | refine eM ?_
           rw [e.2]
           exact e.1
          ·first | exact eN | refine eM ?_
         ·simp only [maxN];have:=hn2;omega
         ·exact eV
         ·have hkL:L.take k=L:=List.take_of_length_le (by exact eV)
          have hdL:L.drop k=[]:=List.drop_eq_nil_of_le (by exact eV)
          refine ⟨⟨i + 1,by omega⟩,by simp only;omega,ent_match [(2,.nm 2),(4,.nm 4),(14,.nm 14),(101,.nm 101),(102,.nm 102),(7,.nm 7),(200,.nm 200)] rfl rfl ?_ ?_⟩
          ·first | exact eN | refine eM ?_
           rw [hkL,hdL,List.append_nil,take_snoc ord 0 hi,List.map_append,List.map_cons,List.map_nil,hnode]
           have t1:List.take i ((ord.take i).map (nodeF f num))=(ord.take i).map (nodeF f num):=List.take_of_length_le (by rw [List.length_map,List.length_take];omega)
           have t2:List.take L.length (L.map (renA num))=L.map (renA num):=List.take_of_length_le (by rw [List.length_map];omega)
           rw [t1,t2]
          ·first | exact eN | refine eM ?_
       ·have hk:ord.take i=ord:=List.take_of_length_le (by exact eV)
        rw [hk]
        refine ev_fin hc [.cell 4 25] rfl (.inl rfl) (by simp) (by first | exact eR | refine eRM ?_;exact List.take_of_length_le (by rw [List.length_map];exact eV))
end
/- Functions of grammarlabref07: Canon, Sub; grammarlabref15: in, arc, canon. -/
section
attribute [local go_sem] formS fromS
theorem arcsG_zero {n:Int}:∀ {l seen:List (Int×Int)},arcsG n seen l=0→∀ a∈l,0≤a.1∧0≤a.2∧a.2 < n
 | [],_,_,a,ha=>by cases ha
 | x :: l,seen,h,a,ha=>by
  simp only [arcsG] at h
  split at h
  ·cases h
  ·split at h
   ·cases h
   ·rename_i h1 _
    rcases List.mem_cons.1 ha with rfl | ha
    ·omega
    ·exact arcsG_zero h a ha
theorem formG_zero {m:Int}:∀ {f:List (Int×List (Int×Int))},formG m f=0→∀ x∈f,0≤x.1∧∀ a∈x.2,0≤a.1∧0≤a.2∧a.2 < m
 | [],_,x,hx=>by cases hx
 | y :: f,h,x,hx=>by
  simp only [formG] at h
  split at h
  ·cases h
  ·split at h
   ·rename_i h1 h2;exact absurd h h2
   ·rename_i h1 h2
    have h2:arcsF y.2 m=0:=Classical.byContradiction h2
    rcases List.mem_cons.1 hx with rfl | hx
    ·exact ⟨by omega,arcsG_zero h2⟩
    ·exact formG_zero h x hx
def SmallA (f:List (Int×List (Int×Int))):Prop:=∀ x∈f,x.2.length≤100000
theorem formF_good {f:List (Int×List (Int×Int))} (h:formF f=0) (hs:SmallA f):GoodF f∧0 < f.length:=by
 unfold formF at h
 split at h
 ·cases h
 ·split at h
  ·cases h
  ·refine ⟨⟨by omega,fun x hx=>⟨hs x hx,fun a ha=>?_⟩⟩,by omega⟩
   have:=(formG_zero h x hx).2 a ha
   exact ⟨this.2.1,this.2.2⟩
def canonF (f:List GNode):List GNode×Int:=if formF f=0 then (fromF f 0,0) else ([],formF f)
def canonS:Spec:={ ins:=[T25],pre:=fun (f,_)=>SmallA f,out:=fun (f,_)=>[.p T25 (canonF f).1,.p T79 (canonF f).2] }
theorem canon_ok:FnOk Tryz.prog 73 canonS:=by
 refine fn_ok Tryz.func73 (by kernel_rfl) rfl Tryz.ntmps73 (by decide) (by kernel_rfl) (tyTab_ok [(110,formS),(107,fromS)]) (fns_cons form_ok (fns_cons from_ok fns_nil)) ?_
 rintro w0 O0 ⟨f,u⟩ hc - hs
 simp only [canonS,entEnv]
 repeat' (first | exact trivial | refine eS rfl ?_ | refine ev_out_inv ?_ | refine rX [0,1,2,3,4,8] hc ?_ ?_ | (refine rC (fun hcond=>?_) (fun hcond=>?_)<;>try (cases hcond;done)))
 ·have h:¬ formF f=0:=by simpa using hcond
  have e:canonF f=([],formF f):=if_neg h
  exact ev_fin hc [.cell 2 25,.tmp 3] rfl (.inl rfl) (by simp) (by rw [e];first | exact eR | refine eRM ?_)
 ·have h:formF f=0:=by simpa using hcond
  have:=formF_good h hs
  exact ⟨this.1,by exact eV⟩
 ·have h:formF f=0:=by simpa using hcond
  have e:canonF f=(fromF f 0,0):=if_pos h
  exact ev_fin hc [.cell 2 25,.tmp 3] rfl (.inl rfl) (by simp) (by rw [e];first | exact eR | refine eRM ?_)
end
/- Functions of grammarlabref11: Apart, Merge, target. -/
section
def apartF (n:Nat):List Int:=(List.range n).map fun (i:Nat)=>(i:Int)
theorem apartF_len (n:Nat):(apartF n).length=n:=by simp [apartF]
theorem apartF_succ (n:Nat):apartF (n + 1)=apartF n++[(n:Int)]:=by simp [apartF,List.range_succ]
theorem apartF_get {n k:Nat} (h:k < n):(apartF n).getD k 0=(k:Int):=by
 unfold apartF
 rw [List.getD_eq_getElem?_getD,List.getElem?_map,List.getElem?_range h]
 rfl
def apartS:Spec:={ ins:=[T3],pre:=fun (n,_)=>(0:Int)≤n∧n≤(100000:Int),out:=fun (n,_)=>[.own 3 T3 (apartF (Int.toNat n))] }
theorem apart_ok:FnOk Tryz.prog 66 apartS:=by
 refine fn_ok Tryz.func66 (by kernel_rfl) rfl Tryz.ntmps66 (by decide) (by kernel_rfl) (tyTab_ok []) fns_nil ?_
 rintro w0 O0 ⟨n,u⟩ hc - ⟨h0,h1⟩
 simp only [apartS,entEnv]
 repeat' (first | exact trivial | refine eS rfl ?_ | refine ev_out_inv ?_ | refine rX [0,2,3,4,7] hc ?_ ?_ | (refine rC (fun hcond=>?_) (fun hcond=>?_)<;>try (cases hcond;done)))
 refine ev_loop (ι:={i:Nat // i≤n.toNat}) (fun i=>⟨[(0,.p T3 n),(3,.sr 13 T3 0 i.1),(4,.p (.int .i64) (i.1:Int))],[(13,.arr 3 T3 (apartF i.1))]⟩) (fun i=>n.toNat - i.1) ⟨0,by omega⟩ (ent_match [(13,.nil)] rfl rfl ?_ ?_) (fun i=>?_)
 ·first | exact eN | refine eM ?_
  rfl
 ·first | exact eN | refine eM ?_
 ·obtain ⟨i,hi⟩:=i
  repeat' (first | exact trivial | refine eS rfl ?_ | refine ev_out_inv ?_ | refine rX [0,2,3,4,7] hc ?_ ?_ | (refine rC (fun hcond=>?_) (fun hcond=>?_)<;>try (cases hcond;done)))
  ·simp only [maxN];exact eV
  ·exact eV
  ·have hlen:(apartF i).take i=apartF i:=List.take_of_length_le (by rw [apartF_len];exact Nat.le_refl i)
   refine ⟨⟨i + 1,by exact eV⟩,by simp only;exact eV,ent_match [(13,.nm 13)] rfl rfl ?_ ?_⟩
   ·simp only
    rw [hlen,apartF_succ]
    first | exact eN | refine eM ?_
   ·first | exact eN | refine eM ?_
  ·have hn:i=n.toNat:=by exact eV
   subst hn
   exact ev_fin_own hc (.inl rfl) (rv:=.tmp 2) rfl (by simp only [resIs,resV,ownOf,go_sem,Nat.reduceEqDiff,reduceCtorEq,Nat.reduceAdd,Nat.reduceSub,Nat.reduceMul,Nat.reduceLeDiff,Nat.reduceLT,Int.reduceLE,Int.reduceToNat,Int.reduceNeg,↓reduceIte];exact (apartF_len _).symm)
def lowF (c:List Int) (m n:Int):Int:=if c.getD n.toNat 0 < c.getD m.toNat 0 then c.getD n.toNat 0 else c.getD m.toNat 0
def highF (c:List Int) (m n:Int):Int:=if c.getD m.toNat 0 < c.getD n.toNat 0 then c.getD n.toNat 0 else c.getD m.toNat 0
def oneF (hi lo x:Int):Int:=if x=hi then lo else x
def mergeF (c:List Int) (m n:Int):List Int:=c.map (oneF (highF c m n) (lowF c m n))
def mer11S:Spec:={ ins:=[T40,T3,T3],pre:=fun (c,m,n,_)=>List.length c≤100000∧((0:Int)≤m∧m < (List.length c:Int))∧((0:Int)≤n∧n < (List.length c:Int)),out:=fun (c,m,n,_)=>[.p T40 (mergeF c m n)] }
theorem mer11_ok:FnOk Tryz.prog 65 mer11S:=by
 refine fn_ok Tryz.func65 (by kernel_rfl) rfl Tryz.ntmps65 (by decide) (by kernel_rfl) (tyTab_ok []) fns_nil ?_
 rintro w0 O0 ⟨c,m,n,u⟩ hc - ⟨hl,hm,hn⟩
 simp only [mer11S,entEnv]
 repeat' (first | exact trivial | refine eS rfl ?_ | refine ev_out_inv ?_ | refine rX [0,1,2,6,7,8,9,10,35,43] hc ?_ ?_ | (refine rC (fun hcond=>?_) (fun hcond=>?_)<;>try (cases hcond;done)))
 ·exact ⟨hm,hn⟩
 ·exact ⟨hm,hn⟩
 ·simp only [maxN];exact eV
 ·have hlo:(if List.getD c (Int.toNat n) 0 < List.getD c (Int.toNat m) 0 then List.getD c (Int.toNat n) 0 else List.getD c (Int.toNat m) 0)=lowF c m n:=rfl
  have hhi:(if List.getD c (Int.toNat m) 0 < List.getD c (Int.toNat n) 0 then List.getD c (Int.toNat n) 0 else List.getD c (Int.toNat m) 0)=highF c m n:=rfl
  rw [hlo,hhi]
  have hmg:mergeF c m n=c.map (oneF (highF c m n) (lowF c m n)):=rfl
  generalize lowF c m n=lo at *
  generalize highF c m n=hi at *
  refine ev_loop (ι:={i:Nat // i≤c.length}) (fun i=>⟨[(7,.p T3 lo),(8,.p T3 hi),(9,.sr 29 T3 0 c.length),(10,.p (.int .i64) (i.1:Int))],[(29,.arr 3 T3 ((c.take i.1).map (oneF hi lo)++c.drop i.1))]⟩) (fun i=>c.length - i.1) ⟨0,by omega⟩ (ent_match [(29,.nm 29)] rfl rfl ?_ ?_) (fun i=>?_)
  ·first | exact eN | refine eM ?_
  ·first | exact eN | refine eM ?_
  ·obtain ⟨i,hi2⟩:=i
   have hget:i < c.length→((c.take i).map (oneF hi lo)++c.drop i).getD i 0=c.getD i 0:=fun h=>by
    rw [List.getD_eq_getElem?_getD,List.getElem?_append_right (by simp;omega)]
    simp only [List.length_map,List.length_take,Nat.min_eq_left hi2,Nat.sub_self,List.getElem?_drop,Nat.add_zero]
    rw [List.getD_eq_getElem?_getD]
   have hset:∀ x,i < c.length→((c.take i).map (oneF hi lo)++c.drop i).set i x=(c.take i).map (oneF hi lo)++[x]++c.drop (i + 1):=fun x h=>by
    rw [List.set_append_right _ _ (by simp;omega)]
    simp only [List.length_map,List.length_take,Nat.min_eq_left hi2,Nat.sub_self]
    rw [List.drop_eq_getElem_cons h,List.set_cons_zero,List.append_assoc];rfl
   have hnx:∀ x,i < c.length→x=oneF hi lo (c.getD i 0)→(c.take i).map (oneF hi lo)++[x]++c.drop (i + 1)=(c.take (i + 1)).map (oneF hi lo)++c.drop (i + 1):=fun x h e=>by
    rw [take_snoc c 0 h,List.map_append,e];rfl
   have hid:i < c.length→(c.take i).map (oneF hi lo)++c.drop i=(c.take i).map (oneF hi lo)++[c.getD i 0]++c.drop (i + 1):=fun h=>by
    rw [List.drop_eq_getElem_cons h,List.append_assoc,List.getD_eq_getElem?_getD,List.getElem?_eq_getElem h];rfl
   repeat' (first | exact trivial | refine eS rfl ?_ | refine ev_out_inv ?_ | refine rX [0,1,2,6,7,8,9,10,35,43] hc ?_ ?_ | (refine rC (fun hcond=>?_) (fun hcond=>?_)<;>try (cases hcond;done)))
   ·exact hcond
   ·exact eV
   ·exact eV
   ·have hil:i < c.length:=by exact eV
    rw [hget hil] at hcond
    refine ⟨⟨i + 1,by omega⟩,by simp only;omega,ent_match [(29,.nm 29)] rfl rfl ?_ ?_⟩
    ·simp only
     rw [← hnx lo hil (by unfold oneF;rw [if_pos hcond]),← hset lo hil]
     first | exact eN | refine eM ?_
    ·first | exact eN | refine eM ?_
   ·exact eV
   ·have hil:i < c.length:=by exact eV
    rw [hget hil] at hcond
    refine ⟨⟨i + 1,by omega⟩,by simp only;omega,ent_match [(29,.nm 29)] rfl rfl ?_ ?_⟩
    ·simp only
     rw [← hnx (c.getD i 0) hil (by unfold oneF;rw [if_neg hcond]),← hid hil]
     first | exact eN | refine eM ?_
    ·first | exact eN | refine eM ?_
   ·have hil:c.length≤i:=by exact eV
    have hfin:(c.take i).map (oneF hi lo)++c.drop i=mergeF c m n:=by
     rw [List.take_of_length_le hil,List.drop_eq_nil_of_le hil,List.append_nil,hmg]
    rw [hfin]
    have hml:(mergeF c m n).take c.length=mergeF c m n:=List.take_of_length_le (by rw [hmg,List.length_map];exact Nat.le_refl _)
    exact ev_fin hc [.tmp 6] rfl (.inl rfl) (by simp) (by first | exact eR | refine eRM ?_;exact hml)
def tarG (l:List (Int×Int)) (e:Int):Int×Bool:=match l with
 | []=>(0,false)
 | a :: r=>if a.1=e then (a.2,true) else tarG r e
def tar11S:Spec:={ ins:=[T86,T3],pre:=fun _=>True,out:=fun (l,e,_)=>[.p T3 (tarG l e).1,.p .bool (tarG l e).2],lend:=true }
theorem tar11_ok:FnOk Tryz.prog 104 tar11S:=by
 refine fn_ok Tryz.func104 (by kernel_rfl) rfl Tryz.ntmps104 (by decide) (by kernel_rfl) (tyTab_ok []) fns_nil ?_
 rintro w0 O0 ⟨l,n,u⟩ hc ⟨⟨hl,-⟩,-⟩ -
 simp only [maxN] at hl
 simp only [tar11S,entEnv]
 repeat' (first | exact trivial | refine eS rfl ?_ | refine ev_out_inv ?_ | refine rX [0,1,4,5,6,10,19] hc ?_ ?_ | (refine rC (fun hcond=>?_) (fun hcond=>?_)<;>try (cases hcond;done)))
 refine ev_loop (ι:={k:Nat // k≤l.length∧tarG (l.drop k) n=tarG l n}) (fun k=>⟨[(0,.p T86 l),(1,.p T3 n),(6,.p (.int .i64) (k.1:Int))],[]⟩) (fun k=>l.length - k.1) ⟨0,by simp⟩ (ent_match [] rfl rfl ?_ ?_) (fun k=>?_)
 ·first | exact eN | refine eM ?_
 ·first | exact eN | refine eM ?_
 ·obtain ⟨k,hk,hg⟩:=k
  repeat' (first | exact trivial | refine eS rfl ?_ | refine ev_out_inv ?_ | refine rX [0,1,4,5,6,10,19] hc ?_ ?_ | (refine rC (fun hcond=>?_) (fun hcond=>?_)<;>try (cases hcond;done)))
  ·exact hcond
  ·exact eV
  ·have hkl:k < l.length:=by exact eV
   have hd:l.drop k=l.getD k (0,0) :: l.drop (k + 1):=by
    rw [List.drop_eq_getElem_cons hkl,List.getD_eq_getElem?_getD,List.getElem?_eq_getElem hkl];rfl
   rw [hd] at hg
   have hg:(if (l.getD k (0,0)).1=n then ((l.getD k (0,0)).2,true) else tarG (l.drop (k + 1)) n)=tarG l n:=hg
   rw [if_pos hcond] at hg
   exact ev_fin hc [.tmp 4,.tmp 5] rfl (.inl rfl) (by simp) (by rw [← hg];first | exact eR | refine eRM ?_)
  ·exact eV
  ·have hkl:k < l.length:=by exact eV
   have hd:l.drop k=l.getD k (0,0) :: l.drop (k + 1):=by
    rw [List.drop_eq_getElem_cons hkl,List.getD_eq_getElem?_getD,List.getElem?_eq_getElem hkl];rfl
   rw [hd] at hg
   have hg:(if (l.getD k (0,0)).1=n then ((l.getD k (0,0)).2,true) else tarG (l.drop (k + 1)) n)=tarG l n:=hg
   rw [if_neg hcond] at hg
   refine ⟨⟨k + 1,by omega,hg⟩,by simp only;omega,ent_match [] rfl rfl ?_ ?_⟩
   ·first | exact eN | refine eM ?_
   ·first | exact eN | refine eM ?_
  ·have hk:l.drop k=[]:=List.drop_eq_nil_of_le (by exact eV)
   rw [hk] at hg
   have hg:(0,false)=tarG l n:=hg
   exact ev_fin hc [.tmp 4,.tmp 5] rfl (.inl rfl) (by simp) (by rw [← hg];first | exact eR | refine eRM ?_)
end
/- Plain: what grammarlabref11.Close does, step by step. -/
section
def addedW (l h:List (Int×Int)):List (Int×Int):=h.filterMap fun x=>if (tarG l x.1).2=true then some ((tarG l x.1).1,x.2) else none
def bothA (l h:List (Int×Int)):List (Int×Int):=l++h.filter fun x=>!(tarG l x.1).2
theorem both_len (l h:List (Int×Int)):(bothA l h).length + (addedW l h).length=l.length + h.length:=by
 unfold bothA addedW
 induction h with
 | nil=>simp
 | cons x h ih =>
  simp only [List.length_append,List.filter_cons,List.filterMap_cons,List.length_cons] at ih ⊢
  cases hx:(tarG l x.1).2
  ·simp only [Bool.not_false,if_true,Bool.false_eq_true,if_false,List.length_cons];omega
  ·simp only [Bool.not_true,Bool.false_eq_true,if_false,if_true,List.length_cons];omega
theorem added_snoc_t {l h:List (Int×Int)} {x:Int×Int} (hx:(tarG l x.1).2=true):addedW l (h++[x])=addedW l h++[((tarG l x.1).1,x.2)]∧bothA l (h++[x])=bothA l h:=by
 unfold addedW bothA
 simp [List.filterMap_append,hx]
theorem added_snoc_f {l h:List (Int×Int)} {x:Int×Int} (hx:(tarG l x.1).2=false):addedW l (h++[x])=addedW l h∧bothA l (h++[x])=bothA l h++[x]:=by
 unfold addedW bothA
 simp [List.filterMap_append,hx]
theorem tar_mem {l:List (Int×Int)} {e:Int} (h:(tarG l e).2=true):(e,(tarG l e).1)∈l:=by
 induction l with
 | nil=>cases h
 | cons a r ih =>
  unfold tarG at h ⊢
  by_cases ha:a.1=e
  ·rw [if_pos ha];subst ha;exact List.mem_cons_self
  ·rw [if_neg ha] at h ⊢;exact List.mem_cons_of_mem _ (ih h)
theorem tar_some {l:List (Int×Int)} {e:Int} (a:Int×Int) (ha:a∈l) (he:a.1=e):(tarG l e).2=true:=by
 induction l with
 | nil=>cases ha
 | cons b r ih =>
  unfold tarG
  by_cases hb:b.1=e
  ·rw [if_pos hb]
  ·rw [if_neg hb]
   rcases List.mem_cons.1 ha with rfl | ha
   ·exact absurd he hb
   ·exact ih ha
/-! Sums -/
def sumN:Nat→(Nat→Nat)→Nat
 | 0,_=>0
 | n + 1,f=>sumN n f + f n
theorem sumN_congr {n:Nat} {f g:Nat→Nat} (h:∀ k,k < n→g k=f k):sumN n g=sumN n f:=by
 induction n with
 | zero=>rfl
 | succ n ih=>simp only [sumN];rw [ih fun k hk=>h k (by omega),h n (by omega)]
theorem sumN_one {n:Nat} {f g:Nat→Nat} {a:Nat} (ha:a < n) (h:∀ k,k < n→k≠a→g k=f k):sumN n g + f a=sumN n f + g a:=by
 induction n with
 | zero=>omega
 | succ n ih =>
  simp only [sumN]
  by_cases e:a=n
  ·subst e
   rw [sumN_congr (n:=a) (f:=f) fun k hk=>h k (by omega) (by omega)];omega
  ·have:=ih (by omega) fun k hk=>h k (by omega)
   have:=h n (by omega) (fun h=>e h.symm)
   omega
theorem sumN_two {n:Nat} {f g:Nat→Nat} {a b:Nat} (ha:a < n) (hb:b < n) (hab:a≠b) (h:∀ k,k < n→k≠a→k≠b→g k=f k):sumN n g + f a + f b=sumN n f + g a + g b:=by
 have h1:=sumN_one (f:=f) (g:=fun k=>if k=a then g a else f k) ha (fun k hk hka=>by simp only [if_neg hka])
 have h2:=sumN_one (f:=fun k=>if k=a then g a else f k) (g:=g) hb (fun k hk hkb=>by
  by_cases e:k=a
  ·subst e;simp
  ·simp only [if_neg e];exact h k hk e hkb)
 simp only [if_true,if_neg (fun e:b=a=>hab e.symm)] at h1 h2
 omega
theorem sumN_le2 {n:Nat} {f:Nat→Nat} {a b:Nat} (ha:a < n) (hb:b < n) (hab:a≠b):f a + f b≤sumN n f:=by
 have:=sumN_two (f:=f) (g:=fun k=>if k=a∨k=b then 0 else f k) ha hb hab (fun k _ h1 h2=>by simp [h1,h2])
 simp at this
 omega
theorem sumN_bound {n B:Nat} {f:Nat→Nat} (h:∀ k,k < n→f k≤B):sumN n f≤n * B:=by
 induction n with
 | zero=>simp [sumN]
 | succ n ih =>
  simp only [sumN]
  have:=ih fun k hk=>h k (by omega)
  have:=h n (by omega)
  rw [Nat.succ_mul]
  omega
/-! The state -/
def wsum (o:List Int) (ar:List (List (Int×Int))):Nat:=sumN o.length fun k=>if o.getD k 0=(k:Int) then (ar.getD k []).length else 0
structure CI (n:Nat) (o:List Int) (ar:List (List (Int×Int))) (W:List (Int×Int)):Prop where
 lo:o.length=n
 la:ar.length=n
 rep:∀ k:Nat,k < n→0≤o.getD k 0∧o.getD k 0≤(k:Int)∧o.getD (o.getD k 0).toNat 0=o.getD k 0
 wr:∀ w∈W,(0≤w.1∧w.1 < (n:Int))∧(0≤w.2∧w.2 < (n:Int))
 ta:∀ k,∀ a∈ar.getD k [],0≤a.2∧a.2 < (n:Int)
theorem CI.rng {n:Nat} {o:List Int} {ar:List (List (Int×Int))} {W:List (Int×Int)} (h:CI n o ar W) {x:Int} (x0:0≤x) (x1:x < (n:Int)):0≤o.getD x.toNat 0∧o.getD x.toNat 0 < (n:Int)∧o.getD (o.getD x.toNat 0).toNat 0=o.getD x.toNat 0:=by
 obtain ⟨h1,h2,h3⟩:=h.rep x.toNat (by omega)
 exact ⟨h1,by omega,h3⟩
theorem merge_get {c:List Int} {m n:Int} {k:Nat} (hk:k < c.length):(mergeF c m n).getD k 0=oneF (highF c m n) (lowF c m n) (c.getD k 0):=by
 unfold mergeF
 rw [List.getD_eq_getElem?_getD,List.getElem?_map,List.getElem?_eq_getElem hk,List.getD_eq_getElem?_getD,List.getElem?_eq_getElem hk];rfl
theorem merge_len (c:List Int) (m n:Int):(mergeF c m n).length=c.length:=by simp [mergeF]
structure LH (o:List Int) (n:Nat) (lo hi:Int):Prop where
 l0:0≤lo
 lt:lo < hi
 h1:hi < (n:Int)
 rl:o.getD lo.toNat 0=lo
 rh:o.getD hi.toNat 0=hi
section
variable {n:Nat} {o:List Int} {ar:List (List (Int×Int))} {W:List (Int×Int)} {x y:Int}
theorem lh_of (h:CI n o ar W) (x0:0≤x) (x1:x < (n:Int)) (y0:0≤y) (y1:y < (n:Int)) (hne:lowF o x y≠highF o x y):LH o n (lowF o x y) (highF o x y):=by
 obtain ⟨a1,a2,a3⟩:=h.rng x0 x1
 obtain ⟨b1,b2,b3⟩:=h.rng y0 y1
 unfold lowF highF at hne ⊢
 by_cases e1:o.getD y.toNat 0 < o.getD x.toNat 0
 ·rw [if_pos e1,if_neg (by omega)]
  exact ⟨b1,e1,a2,b3,a3⟩
 ·rw [if_neg e1] at hne ⊢
  by_cases e2:o.getD x.toNat 0 < o.getD y.toNat 0
  ·rw [if_pos e2]
   exact ⟨a1,e2,b2,a3,b3⟩
  ·rw [if_neg e2] at hne
   exact absurd rfl hne
theorem ci_tail {w:Int×Int} (h:CI n o ar (w :: W)):CI n o ar W:=⟨h.lo,h.la,h.rep,fun u hu=>h.wr u (List.mem_cons_of_mem _ hu),h.ta⟩
theorem getD_set (l:List (List (Int×Int))) (v:List (Int×Int)) (i j:Nat) (hi:i < l.length):(l.set i v).getD j []=if j=i then v else l.getD j []:=by
 simp only [List.getD_eq_getElem?_getD,List.getElem?_set]
 by_cases e:i=j
 ·subst e;simp [hi]
 ·rw [if_neg e,if_neg (fun h=>e h.symm)]
theorem one_ne {hi lo v:Int} (h:v≠hi):oneF hi lo v=v:=if_neg h
theorem one_eq {hi lo:Int}:oneF hi lo hi=lo:=if_pos rfl
theorem ci_merge (h:CI n o ar W) (hl:LH o n (lowF o x y) (highF o x y)) :
  CI n (mergeF o x y) (ar.set (lowF o x y).toNat (bothA (ar.getD (lowF o x y).toNat []) (ar.getD (highF o x y).toNat []))) (W++addedW (ar.getD (lowF o x y).toNat []) (ar.getD (highF o x y).toNat [])):=by
 have hg:=fun (k:Nat) (hk:k < n)=>merge_get (m:=x) (n:=y) (show k < o.length by rw [h.lo];exact hk)
 have hml:=merge_len o x y
 generalize lowF o x y=lo at *
 generalize highF o x y=hi at *
 obtain ⟨l0,lt,h1,rl,rh⟩:=hl
 have hlo:=h.lo
 have hla:=h.la
 refine ⟨by rw [hml];exact hlo,by rw [List.length_set];exact hla,fun k hk=>?_,fun w hw=>?_,fun k a ha=>?_⟩
 ·obtain ⟨r1,r2,r3⟩:=h.rep k hk
  rw [hg k hk]
  by_cases e:o.getD k 0=hi
  ·rw [e,one_eq,hg _ (by omega),rl,one_ne (by omega)]
   exact ⟨l0,by omega,rfl⟩
  ·rw [one_ne e,hg _ (by omega),r3,one_ne e]
   exact ⟨r1,r2,rfl⟩
 ·rcases List.mem_append.1 hw with hw | hw
  ·exact h.wr w hw
  ·obtain ⟨a,ha,he⟩:=List.mem_filterMap.1 hw
   split at he
   ·rename_i ht
    cases he
    exact ⟨h.ta _ _ (tar_mem ht),h.ta _ a ha⟩
   ·cases he
 ·rw [getD_set _ _ _ _ (by omega)] at ha
  split at ha
  ·rcases List.mem_append.1 ha with ha | ha
   ·exact h.ta _ a ha
   ·exact h.ta _ a (List.mem_filter.1 ha).1
  ·exact h.ta _ a ha
theorem wsum_merge (h:CI n o ar W) (hl:LH o n (lowF o x y) (highF o x y)) :
  wsum (mergeF o x y) (ar.set (lowF o x y).toNat (bothA (ar.getD (lowF o x y).toNat []) (ar.getD (highF o x y).toNat []))) + (addedW (ar.getD (lowF o x y).toNat []) (ar.getD (highF o x y).toNat [])).length=wsum o ar:=by
 have hg:=fun (k:Nat) (hk:k < n)=>merge_get (m:=x) (n:=y) (show k < o.length by rw [h.lo];exact hk)
 have hml:=merge_len o x y
 generalize lowF o x y=lo at *
 generalize highF o x y=hi at *
 obtain ⟨l0,lt,h1,rl,rh⟩:=hl
 have hlo:=h.lo
 have hla:=h.la
 have hbl:=both_len (ar.getD lo.toNat []) (ar.getD hi.toNat [])
 have hs:=sumN_two (n:=n) (f:=fun k=>if o.getD k 0=(k:Int) then (ar.getD k []).length else 0)
  (g:=fun k=>if (mergeF o x y).getD k 0=(k:Int) then ((ar.set lo.toNat (bothA (ar.getD lo.toNat []) (ar.getD hi.toNat []))).getD k []).length else 0)
  (a:=lo.toNat) (b:=hi.toNat) (by omega) (by omega) (by omega) (fun k hk k1 k2=>by
   rw [hg k hk,getD_set _ _ _ _ (by omega),if_neg k1]
   by_cases e:o.getD k 0=hi
   ·rw [e,one_eq,if_neg (by omega),if_neg (by omega)]
   ·rw [one_ne e])
 have e1:(o.getD lo.toNat 0=((lo.toNat:Nat):Int)):=by rw [rl];omega
 have e2:(o.getD hi.toNat 0=((hi.toNat:Nat):Int)):=by rw [rh];omega
 have e3:((mergeF o x y).getD lo.toNat 0=((lo.toNat:Nat):Int)):=by rw [hg _ (by omega),rl,one_ne (by omega)];omega
 have e4:¬ ((mergeF o x y).getD hi.toNat 0=((hi.toNat:Nat):Int)):=by rw [hg _ (by omega),rh,one_eq];omega
 simp only [if_pos e1,if_pos e2,if_pos e3,if_neg e4] at hs
 rw [getD_set _ _ _ _ (by omega),if_pos rfl] at hs
 unfold wsum
 rw [hml,hlo]
 omega
theorem wsum_two (h:CI n o ar W) {lo hi:Int} (hl:LH o n lo hi):(ar.getD lo.toNat []).length + (ar.getD hi.toNat []).length≤wsum o ar:=by
 obtain ⟨l0,lt,h1,rl,rh⟩:=hl
 have hlo:=h.lo
 have:=sumN_le2 (n:=n) (f:=fun k=>if o.getD k 0=(k:Int) then (ar.getD k []).length else 0) (a:=lo.toNat) (b:=hi.toNat) (by omega) (by omega) (by omega)
 have e1:(o.getD lo.toNat 0=((lo.toNat:Nat):Int)):=by rw [rl];omega
 have e2:(o.getD hi.toNat 0=((hi.toNat:Nat):Int)):=by rw [rh];omega
 simp only [if_pos e1,if_pos e2] at this
 unfold wsum
 rw [hlo]
 exact this
end
def closeG:Nat→List Int→List (List (Int×Int))→List (Int×Int)→List Int
 | 0,o,_,_=>o
 | _ + 1,o,_,[]=>o
 | k + 1,o,ar,w :: W=>if lowF o w.1 w.2=highF o w.1 w.2 then closeG k o ar W
  else closeG k (mergeF o w.1 w.2) (ar.set (lowF o w.1 w.2).toNat (bothA (ar.getD (lowF o w.1 w.2).toNat []) (ar.getD (highF o w.1 w.2).toNat []))) (W++addedW (ar.getD (lowF o w.1 w.2).toNat []) (ar.getD (highF o w.1 w.2).toNat []))
theorem closeG_nil (k:Nat) (o:List Int) (ar:List (List (Int×Int))):closeG k o ar []=o:=by cases k<;>rfl
def todoG (c:List Int) (i:Nat):List (Int×Int):=((List.range i).filter fun (k:Nat)=>decide (c.getD k 0≠(k:Int))).map fun (k:Nat)=>((k:Int),c.getD k 0)
theorem todoG_len (c:List Int) (i:Nat):(todoG c i).length≤i:=by
 unfold todoG
 rw [List.length_map]
 exact Nat.le_trans (List.length_filter_le _ _) (by simp)
theorem todoG_ne {c:List Int} {i:Nat} (h:c.getD i 0≠(i:Int)):todoG c (i + 1)=todoG c i++[((i:Int),c.getD i 0)]:=by
 unfold todoG
 have e:[i].filter (fun (k:Nat)=>decide (c.getD k 0≠(k:Int)))=[i]:=by rw [List.filter_cons,if_pos (by simpa using h)];rfl
 rw [List.range_succ,List.filter_append,List.map_append,e];rfl
theorem todoG_eq {c:List Int} {i:Nat} (h:c.getD i 0=(i:Int)):todoG c (i + 1)=todoG c i:=by
 unfold todoG
 have e:[i].filter (fun (k:Nat)=>decide (c.getD k 0≠(k:Int)))=[]:=by rw [List.filter_cons,if_neg (by simpa using h)];rfl
 rw [List.range_succ,List.filter_append,List.map_append,e,List.map_nil,List.append_nil]
def arcsL (l:List GNode):List (List (Int×Int)):=l.map (·.2)
theorem arcsL_get (l:List GNode) (k:Nat):(arcsL l).getD k []=(l.getD k (0,[])).2:=by
 unfold arcsL
 rw [List.getD_eq_getElem?_getD,List.getElem?_map,List.getD_eq_getElem?_getD]
 cases l[k]?<;>rfl
def closeF (l:List GNode) (c:List Int):List Int:=closeG (wsum (apartF l.length) (arcsL l) + (todoG c l.length).length) (apartF l.length) (arcsL l) (todoG c l.length)
theorem ci_start {l:List GNode} (hl:GoodF l) {c:List Int} (hc:∀ x∈c,0≤x∧x < (l.length:Int)) (hcl:c.length=l.length):CI l.length (apartF l.length) (arcsL l) (todoG c l.length):=by
 refine ⟨apartF_len _,by simp [arcsL],fun k hk=>?_,fun w hw=>?_,fun k a ha=>?_⟩
 ·rw [apartF_get hk]
  exact ⟨by omega,by omega,by rw [apartF_get (by omega)];omega⟩
 ·unfold todoG at hw
  obtain ⟨k,hk,rfl⟩:=List.mem_map.1 hw
  have hk:=(List.mem_filter.1 hk).1
  have hk:=List.mem_range.1 hk
  refine ⟨⟨by simp only;omega,by simp only;omega⟩,hc _ (mem_of_take_succ c 0 (by omega))⟩
 ·rw [arcsL_get] at ha
  by_cases hk:k < l.length
  ·exact (hl.2 _ (mem_of_take_succ l (0,[]) hk)).2 a ha
  ·rw [List.getD_eq_getElem?_getD,List.getElem?_eq_none (by omega)] at ha
   cases ha
theorem wsum_start {l:List GNode} (hl:GoodF l):wsum (apartF l.length) (arcsL l)≤10000000000:=by
 unfold wsum
 rw [apartF_len]
 have:=sumN_bound (n:=l.length) (B:=100000) (f:=fun k=>if (apartF l.length).getD k 0=(k:Int) then ((arcsL l).getD k []).length else 0) (fun k hk=>by
  split
  ·rw [arcsL_get]
   exact (hl.2 _ (mem_of_take_succ l (0,[]) hk)).1
  ·omega)
 have h1:=hl.1
 have:l.length * 100000≤100000 * 100000:=Nat.mul_le_mul_right _ h1
 omega
end
/- Functions of grammarlabref11: Close. -/
section
attribute [local go_sem] apartS tar11S
def closeS:Spec:={ ins:=[T23,T40],pre:=fun (l,c,_)=>GoodF l∧List.length c=List.length l∧(∀ x∈(c:List Int),0≤x∧x < (List.length l:Int)),out:=fun (l,c,_)=>[.p T40 (closeF l c)] }
attribute [local go_sem] closeS
def arI (l:List GNode) (i:Nat):List (List (Int×Int)):=arcsL (l.take i)++List.replicate (l.length - i) []
theorem arI_set {l:List GNode} {i:Nat} (h:i < l.length):(arI l i).set i (l.getD i (0,[])).2=arI l (i + 1):=by
 unfold arI
 have hl:(arcsL (l.take i)).length=i:=by simp [arcsL];omega
 rw [List.set_append_right _ _ (by omega),hl,Nat.sub_self,show l.length - i=(l.length - (i + 1)) + 1 by omega,List.replicate_succ,List.set_cons_zero,take_snoc l (0,[]) h]
 simp [arcsL]
theorem arI_full (l:List GNode):arI l l.length=arcsL l:=by
 unfold arI
 simp
theorem arI_zero (l:List GNode):arI l 0=List.replicate l.length []:=by
 unfold arI
 simp [arcsL]
def mgI (o:List Int) (hi lo:Int) (k:Nat):List Int:=(o.take k).map (oneF hi lo)++o.drop k
theorem mgI_get {o:List Int} {hi lo:Int} {k:Nat} (h:k < o.length):(mgI o hi lo k).getD k 0=o.getD k 0:=by
 unfold mgI
 rw [List.getD_eq_getElem?_getD,List.getElem?_append_right (by simp;omega)]
 simp only [List.length_map,List.length_take,Nat.min_eq_left (Nat.le_of_lt h),Nat.sub_self,List.getElem?_drop,Nat.add_zero]
 rw [List.getD_eq_getElem?_getD]
theorem mgI_miss {o:List Int} {hi lo:Int} {k:Nat} (h:k < o.length) (e:o.getD k 0≠hi):mgI o hi lo (k + 1)=mgI o hi lo k:=by
 unfold mgI
 rw [take_snoc o 0 h,List.map_append,List.map_singleton,one_ne e,List.append_assoc]
 congr 1
 rw [List.drop_eq_getElem_cons h,List.getD_eq_getElem?_getD,List.getElem?_eq_getElem h];rfl
theorem mgI_hit {o:List Int} {hi lo:Int} {k:Nat} (h:k < o.length) (e:o.getD k 0=hi):mgI o hi lo (k + 1)=(mgI o hi lo k).set k lo:=by
 unfold mgI
 rw [List.set_append_right _ _ (by simp;omega)]
 simp only [List.length_map,List.length_take,Nat.min_eq_left (Nat.le_of_lt h),Nat.sub_self]
 rw [List.drop_eq_getElem_cons h,List.set_cons_zero,take_snoc o 0 h,List.map_append,List.map_singleton,e,one_eq,List.append_assoc];rfl
theorem mgI_full (o:List Int) (hi lo:Int):mgI o hi lo o.length=o.map (oneF hi lo):=by
 unfold mgI
 simp
theorem close_ok:FnOk Tryz.prog 64 closeS:=by
 refine fn_ok Tryz.func64 (by kernel_rfl) rfl Tryz.ntmps64 (by decide) (by kernel_rfl) (tyTab_ok [(66,apartS),(104,tar11S)]) (fns_cons apart_ok (fns_cons tar11_ok fns_nil)) ?_
 rintro w0 O0 ⟨l,c,u⟩ hc - ⟨hg,hcl,hcr⟩
 simp only [closeS,entEnv]
 have hl1:=hg.1
 repeat' (first | exact trivial | refine eS rfl ?_ | refine ev_out_inv ?_ | refine rX [0,1,4,5,6,7,8,9,10,11,12,13,14,15,16,17,27,43,56,95,99,107,124,144] hc ?_ ?_ | (refine rC (fun hcond=>?_) (fun hcond=>?_)<;>try (cases hcond;done)))
 ·exact eV
 ·simp only [maxN];exact eV
 ·rw [← arI_zero]
  rw [apartF_len]
  refine ev_loop (ι:={i:Nat // i≤l.length}) (fun i=>⟨[(0,.p T23 l),(1,.p T40 c),(5,.sr 20 T3 0 l.length),(6,.sr 23 T86 0 l.length),(7,.sr 52 T158 0 (todoG c i.1).length),(8,.p (.int .i64) (i.1:Int))],[(20,.arr 3 T3 (apartF l.length)),(23,.arr 86 T86 (arI l i.1)),(52,.arr 158 T158 (todoG c i.1))]⟩) (fun i=>l.length - i.1) ⟨0,by omega⟩ (ent_match [(20,.nm 20),(23,.nm 23),(52,.nil)] rfl rfl ?_ ?_) (fun i=>?_)
  ·first | exact eN | refine eM ?_
   rfl
  ·first | exact eN | refine eM ?_
   rfl
  ·obtain ⟨i,hi⟩:=i
   have htl:=todoG_len c i
   repeat' (first | exact trivial | refine eS rfl ?_ | refine ev_out_inv ?_ | refine rX [0,1,4,5,6,7,8,9,10,11,12,13,14,15,16,17,27,43,56,95,99,107,124,144] hc ?_ ?_ | (refine rC (fun hcond=>?_) (fun hcond=>?_)<;>try (cases hcond;done)))
   ·exact hcond
   ·rw [hcl];exact hcond
   ·refine ⟨by rw [hcl];assumption,?_⟩
    simp only [maxN];omega
   ·exact eV
   ·have hil:i < l.length:=by exact eV
    have hne:c.getD i 0≠(i:Int):=hcond
    refine ⟨⟨i + 1,by omega⟩,by simp only;omega,ent_match [(20,.nm 20),(23,.nm 23),(52,.nm 52)] rfl rfl ?_ ?_⟩
    ·simp only
     rw [todoG_ne hne,← arI_set hil]
     first | exact eN | refine eM ?_
    ·first | exact eN | refine eM ?_
     rw [todoG_ne hne,List.length_append];rfl
   ·exact eV
   ·have hil:i < l.length:=by exact eV
    have he:c.getD i 0=(i:Int):=by simpa using hcond
    refine ⟨⟨i + 1,by omega⟩,by simp only;omega,ent_match [(20,.nm 20),(23,.nm 23),(52,.nm 52)] rfl rfl ?_ ?_⟩
    ·simp only
     rw [todoG_eq he,← arI_set hil]
     first | exact eN | refine eM ?_
    ·first | exact eN | refine eM ?_
     rw [todoG_eq he]
   ·have hil:i=l.length:=by exact eV
    subst hil
    rw [arI_full]
    have hci:=ci_start hg hcr hcl
    have hw0:=wsum_start hg
    have hcf:closeG (wsum (apartF l.length) (arcsL l) + (todoG c l.length).length) (apartF l.length) (arcsL l) (todoG c l.length)=closeF l c:=rfl
    generalize todoG c l.length=T0 at *
    generalize apartF l.length=o0 at *
    generalize arcsL l=ar0 at *
    generalize closeF l c=res at *
    generalize List.length l=n at *
    refine ev_loop (ι:={s:(List Int×List (List (Int×Int)))×(List (Int×Int)×Nat) // CI n s.1.1 s.1.2 s.2.1∧s.2.2≤s.2.1.length∧s.2.1.length + wsum s.1.1 s.1.2≤10000100000∧closeG (wsum s.1.1 s.1.2 + (s.2.1.length - s.2.2)) s.1.1 s.1.2 (s.2.1.drop s.2.2)=res}) (fun s=>⟨[(5,.sr 20 T3 0 n),(6,.sr 23 T86 0 n),(7,.sr 52 T158 0 s.1.2.1.length),(9,.p (.int .i64) (s.1.2.2:Int))],[(20,.arr 3 T3 s.1.1.1),(23,.arr 86 T86 s.1.1.2),(52,.arr 158 T158 s.1.2.1)]⟩) (fun s=>wsum s.1.1.1 s.1.1.2 + (s.1.2.1.length - s.1.2.2)) ⟨((o0,ar0),(T0,0)),hci,by simp,by simp only;omega,by simpa using hcf⟩ (ent_match [(20,.nm 20),(23,.nm 23),(52,.nm 52)] rfl rfl ?_ ?_) (fun s=>?_)
    ·first | exact eN | refine eM ?_
    ·first | exact eN | refine eM ?_
    ·obtain ⟨⟨⟨o,ar⟩,⟨T,i⟩⟩,hI,hi,hM,hcl⟩:=s
     simp only at hI hi hM hcl
     simp only
     have ho:=hI.lo
     have ha:=hI.la
     have hwr:i < T.length→(0≤(T.getD i (0,0)).1∧(T.getD i (0,0)).1 < (n:Int))∧(0≤(T.getD i (0,0)).2∧(T.getD i (0,0)).2 < (n:Int)):=fun h=>hI.wr _ (mem_of_take_succ T (0,0) h)
     have hdr:i < T.length→T.drop i=T.getD i (0,0) :: T.drop (i + 1):=fun h=>by
      rw [List.drop_eq_getElem_cons h,List.getD_eq_getElem?_getD,List.getElem?_eq_getElem h];rfl
     have hfu:i < T.length→wsum o ar + (T.length - i)=(wsum o ar + (T.length - (i + 1))) + 1:=fun h=>by omega
     generalize hw:T.getD i (0,0)=w at *
     have hlo:(if o.getD (Int.toNat w.2) 0 < o.getD (Int.toNat w.1) 0 then o.getD (Int.toNat w.2) 0 else o.getD (Int.toNat w.1) 0)=lowF o w.1 w.2:=rfl
     have hhi:(if o.getD (Int.toNat w.1) 0 < o.getD (Int.toNat w.2) 0 then o.getD (Int.toNat w.2) 0 else o.getD (Int.toNat w.1) 0)=highF o w.1 w.2:=rfl
     repeat' (first | exact trivial | refine eS rfl ?_ | refine ev_out_inv ?_ | refine rX [0,1,4,5,6,7,8,9,10,11,12,13,14,15,16,17,27,43,56,95,99,107,124,144] hc ?_ ?_ | (refine rC (fun hcond=>?_) (fun hcond=>?_)<;>try (cases hcond;done)))
     ·have h1:i < T.length:=by exact eV
      rw [hw]
      have:=hwr h1
      exact ⟨hcond,this.1,hcond,this.2⟩
     ·have h1:i < T.length:=by exact eV
      rw [hw]
      have:=hwr h1
      exact ⟨hcond,this.1,hcond,this.2⟩
     ·have h1:i < T.length:=by exact eV
      have:T.length≤10000100000:=by omega
      omega
     ·have h1:i < T.length:=by exact eV
      rw [hw,hlo,hhi] at hcond
      refine ⟨⟨((o,ar),(T,i + 1)),hI,by simp only;omega,hM,?_⟩,by simp only;omega,ent_match [(20,.nm 20),(23,.nm 23),(52,.nm 52)] rfl rfl ?_ ?_⟩
      ·simp only
       rw [hdr h1,hfu h1] at hcl
       simp only [closeG] at hcl
       rw [if_pos hcond] at hcl
       exact hcl
      ·first | exact eN | refine eM ?_
      ·first | exact eN | refine eM ?_
     ·have h1:i < T.length:=by exact eV
      rw [hw,hlo,hhi] at hcond ⊢
      have hwr:=hwr h1
      have hLH:=lh_of hI hwr.1.1 hwr.1.2 hwr.2.1 hwr.2.2 hcond
      have hCI:=ci_merge hI hLH
      have hws:=wsum_merge hI hLH
      have hw2:=wsum_two hI hLH
      rw [hdr h1,hfu h1] at hcl
      simp only [closeG] at hcl
      rw [if_neg hcond] at hcl
      have hmg:mergeF o w.1 w.2=o.map (oneF (highF o w.1 w.2) (lowF o w.1 w.2)):=rfl
      have hml:=merge_len o w.1 w.2
      generalize lowF o w.1 w.2=lo at *
      generalize highF o w.1 w.2=hh at *
      refine ev_loop (ι:={k:Nat // k≤o.length}) (fun k=>⟨[(5,.sr 20 T3 0 n),(6,.sr 23 T86 0 n),(7,.sr 52 T158 0 T.length),(9,.p (.int .i64) (i:Int)),(10,.p T3 lo),(11,.p T3 hh),(12,.p (.int .i64) (k.1:Int))],[(20,.arr 3 T3 (mgI o hh lo k.1)),(23,.arr 86 T86 ar),(52,.arr 158 T158 T)]⟩) (fun k=>o.length - k.1) ⟨0,by omega⟩ (ent_match [(20,.nm 20),(23,.nm 23),(52,.nm 52)] rfl rfl ?_ ?_) (fun k=>?_)
      ·first | exact eN | refine eM ?_
       rfl
      ·first | exact eN | refine eM ?_
      ·obtain ⟨k,hk⟩:=k
       simp only
       repeat' (first | exact trivial | refine eS rfl ?_ | refine ev_out_inv ?_ | refine rX [0,1,4,5,6,7,8,9,10,11,12,13,14,15,16,17,27,43,56,95,99,107,124,144] hc ?_ ?_ | (refine rC (fun hcond=>?_) (fun hcond=>?_)<;>try (cases hcond;done)))
       ·exact hcond
       ·assumption
       ·exact eV
       ·have hko:k < o.length:=by rw [ho];exact eV
        rw [mgI_get hko] at hcond
        refine ⟨⟨k + 1,by omega⟩,by simp only;omega,ent_match [(20,.nm 20),(23,.nm 23),(52,.nm 52)] rfl rfl ?_ ?_⟩
        ·simp only
         rw [mgI_hit hko hcond]
         first | exact eN | refine eM ?_
        ·first | exact eN | refine eM ?_
       ·exact eV
       ·have hko:k < o.length:=by rw [ho];exact eV
        rw [mgI_get hko] at hcond
        refine ⟨⟨k + 1,by omega⟩,by simp only;omega,ent_match [(20,.nm 20),(23,.nm 23),(52,.nm 52)] rfl rfl ?_ ?_⟩
        ·simp only
         rw [mgI_miss hko hcond]
         first | exact eN | refine eM ?_
        ·first | exact eN | refine eM ?_
       ·refine ⟨⟨hLH.l0,Int.lt_trans hLH.lt hLH.h1⟩,?_⟩
        simp only [maxN]
        dsimp only [Ty.den] at *
        omega
       ·have hkn:k=o.length:=by rw [ho] at hk ⊢;exact eV
        subst hkn
        rw [mgI_full,← hmg]
        have hb0:bothA (ar.getD lo.toNat []) ((ar.getD hh.toNat []).take 0)=ar.getD lo.toNat []:=by simp [bothA]
        have hd0:addedW (ar.getD lo.toNat []) ((ar.getD hh.toNat []).take 0)=[]:=by simp [addedW]
        have hbl:=both_len (ar.getD lo.toNat []) (ar.getD hh.toNat [])
        refine ev_loop (ι:={k:Nat // k≤(ar.getD hh.toNat []).length}) (fun k=>⟨[(5,.sr 20 T3 0 n),(6,.sr 23 T86 0 n),(7,.sr 52 T158 0 (T++addedW (ar.getD lo.toNat []) ((ar.getD hh.toNat []).take k.1)).length),(9,.p (.int .i64) (i:Int)),(10,.p T3 lo),(11,.p T3 hh),(13,.sr 112 T108 0 (bothA (ar.getD lo.toNat []) ((ar.getD hh.toNat []).take k.1)).length),(14,.p (.int .i64) (k.1:Int))],[(20,.arr 3 T3 (mergeF o w.1 w.2)),(23,.arr 86 T86 ar),(52,.arr 158 T158 (T++addedW (ar.getD lo.toNat []) ((ar.getD hh.toNat []).take k.1))),(112,.arr 108 T108 (bothA (ar.getD lo.toNat []) ((ar.getD hh.toNat []).take k.1)))]⟩) (fun k=>(ar.getD hh.toNat []).length - k.1) ⟨0,by omega⟩ (ent_match [(20,.nm 20),(23,.nm 23),(52,.nm 52),(112,.nm 112)] rfl rfl ?_ ?_) (fun k=>?_)
        ·simp only
         rw [hb0,hd0,List.append_nil]
         first | exact eN | refine eM ?_
        ·simp only
         rw [hb0,hd0,List.append_nil]
         first | exact eN | refine eM ?_
        ·obtain ⟨k,hk⟩:=k
         simp only
         have hbk:=both_len (ar.getD lo.toNat []) ((ar.getD hh.toNat []).take k)
         have htk:=List.length_take_le k (ar.getD hh.toNat [])
         have hsn:=fun (h:k < (ar.getD hh.toNat []).length)=>take_snoc (ar.getD hh.toNat []) (0,0) h
         have hst:=fun (x:Int×Int) (h:(tarG (ar.getD lo.toNat []) x.1).2=true)=>added_snoc_t (h:=(ar.getD hh.toNat []).take k) h
         have hsf:=fun (x:Int×Int) (h:(tarG (ar.getD lo.toNat []) x.1).2=false)=>added_snoc_f (h:=(ar.getD hh.toNat []).take k) h
         have hh0:0≤hh∧hh < (n:Int):=⟨Int.le_trans hLH.l0 (Int.le_of_lt hLH.lt),hLH.h1⟩
         have hl0:0≤lo∧lo < (n:Int):=⟨hLH.l0,Int.lt_trans hLH.lt hLH.h1⟩
         repeat' (first | exact trivial | refine eS rfl ?_ | refine ev_out_inv ?_ | refine rX [0,1,4,5,6,7,8,9,10,11,12,13,14,15,16,17,27,43,56,95,99,107,124,144] hc ?_ ?_ | (refine rC (fun hcond=>?_) (fun hcond=>?_)<;>try (cases hcond;done)))
         ·exact hh0
         ·exact ⟨hh0,hcond⟩
         ·exact hl0
         ·simp only [maxN]
          dsimp only [Ty.den] at *
          omega
         ·exact eV
         ·have hk1:k < (ar.getD hh.toNat []).length:=by exact eV
          refine ⟨⟨k + 1,by omega⟩,by simp only;omega,ent_match [(20,.nm 20),(23,.nm 23),(52,.nm 52),(112,.nm 112)] rfl rfl ?_ ?_⟩
          ·simp only
           rw [hsn hk1,(hst _ hcond).1,(hst _ hcond).2,← List.append_assoc]
           first | exact eN | refine eM ?_
          ·simp only
           rw [hsn hk1,(hst _ hcond).1,(hst _ hcond).2,← List.append_assoc]
           first | exact eN | refine eM ?_
         ·simp only [maxN]
          dsimp only [Ty.den] at *
          omega
         ·exact eV
         ·have hk1:k < (ar.getD hh.toNat []).length:=by exact eV
          refine ⟨⟨k + 1,by omega⟩,by simp only;omega,ent_match [(20,.nm 20),(23,.nm 23),(52,.nm 52),(112,.nm 112)] rfl rfl ?_ ?_⟩
          ·simp only
           rw [hsn hk1,(hsf _ hcond).1,(hsf _ hcond).2]
           first | exact eN | refine eM ?_
          ·simp only
           rw [hsn hk1,(hsf _ hcond).1,(hsf _ hcond).2]
           first | exact eN | refine eM ?_
         ·exact hl0
         ·have h1:i < T.length:=by exact eV
          have:T.length≤10000100000:=by omega
          omega
         ·have h1:i < T.length:=by exact eV
          have hkf:(ar.getD hh.toNat []).take k=ar.getD hh.toNat []:=List.take_of_length_le (by exact eV)
          rw [hkf]
          refine ⟨⟨((mergeF o w.1 w.2,ar.set lo.toNat (bothA (ar.getD lo.toNat []) (ar.getD hh.toNat []))),(T++addedW (ar.getD lo.toNat []) (ar.getD hh.toNat []),i + 1)),hCI,by simp only [List.length_append];omega,by simp only [List.length_append];omega,?_⟩,by simp only [List.length_append];omega,ent_match [(20,.nm 20),(23,.nm 23),(52,.nm 52)] rfl rfl ?_ ?_⟩
          ·simp only
           rw [List.drop_append_of_le_length (by omega),← hcl]
           congr 1
           simp only [List.length_append]
           omega
          ·first | exact eN | refine eM ?_
          ·first | exact eN | refine eM ?_
     ·have hdn:T.drop i=[]:=List.drop_eq_nil_of_le (by exact eV)
      rw [hdn,closeG_nil] at hcl
      subst hcl
      have hot:o.take n=o:=List.take_of_length_le (by omega)
      exact ev_fin hc [.tmp 4] rfl (.inl rfl) (by simp) (by first | exact eR | refine eRM ?_;exact hot)
end
/- Functions of grammarlabref01: digit, upper, lower, part, named, Name, Feature. -/
section
def rangeB (a b c:Int):Bool:=decide (a≤c) && decide (c≤b)
def digitS:Spec:={ ins:=[.int .u8],pre:=fun _=>True,out:=fun (c,_)=>[.p .bool (rangeB 48 57 c)] }
attribute [local go_sem] digitS
def upperS:Spec:={ ins:=[.int .u8],pre:=fun _=>True,out:=fun (c,_)=>[.p .bool (rangeB 65 90 c)] }
attribute [local go_sem] upperS
def lowerS:Spec:={ ins:=[.int .u8],pre:=fun _=>True,out:=fun (c,_)=>[.p .bool (rangeB 97 122 c)] }
attribute [local go_sem] lowerS
theorem digit_ok:FnOk Tryz.prog 225 digitS:=by
 refine fn_ok Tryz.func225 (by kernel_rfl) rfl Tryz.ntmps225 (by decide) (by kernel_rfl) (tyTab_ok []) fns_nil ?_
 rintro w0 O0 ⟨c,u⟩ hc - -
 simp only [digitS,entEnv]
 repeat' (first | exact trivial | refine eS rfl ?_ | refine ev_out_inv ?_ | refine rX [0,2] hc ?_ ?_ | (refine rC (fun hcond=>?_) (fun hcond=>?_)<;>try (cases hcond;done)))
 exact ev_fin hc [.tmp 2] rfl (.inl rfl) (by simp) (by unfold rangeB;first | exact eR | refine eRM ?_)
theorem upper_ok:FnOk Tryz.prog 230 upperS:=by
 refine fn_ok Tryz.func230 (by kernel_rfl) rfl Tryz.ntmps230 (by decide) (by kernel_rfl) (tyTab_ok []) fns_nil ?_
 rintro w0 O0 ⟨c,u⟩ hc - -
 simp only [upperS,entEnv]
 repeat' (first | exact trivial | refine eS rfl ?_ | refine ev_out_inv ?_ | refine rX [0,2] hc ?_ ?_ | (refine rC (fun hcond=>?_) (fun hcond=>?_)<;>try (cases hcond;done)))
 exact ev_fin hc [.tmp 2] rfl (.inl rfl) (by simp) (by unfold rangeB;first | exact eR | refine eRM ?_)
theorem lower_ok:FnOk Tryz.prog 231 lowerS:=by
 refine fn_ok Tryz.func231 (by kernel_rfl) rfl Tryz.ntmps231 (by decide) (by kernel_rfl) (tyTab_ok []) fns_nil ?_
 rintro w0 O0 ⟨c,u⟩ hc - -
 simp only [lowerS,entEnv]
 repeat' (first | exact trivial | refine eS rfl ?_ | refine ev_out_inv ?_ | refine rX [0,2] hc ?_ ?_ | (refine rC (fun hcond=>?_) (fun hcond=>?_)<;>try (cases hcond;done)))
 exact ev_fin hc [.tmp 2] rfl (.inl rfl) (by simp) (by unfold rangeB;first | exact eR | refine eRM ?_)
def partF1 (c:Int) (big:Bool):Bool:=rangeB 48 57 c || c == 45 || big && rangeB 65 90 c || !big && rangeB 97 122 c
def partS:Spec:={ ins:=[.int .u8,.bool],pre:=fun _=>True,out:=fun (c,b,_)=>[.p .bool (partF1 c b)] }
attribute [local go_sem] partS
theorem part_ok:FnOk Tryz.prog 226 partS:=by
 refine fn_ok Tryz.func226 (by kernel_rfl) rfl Tryz.ntmps226 (by decide) (by kernel_rfl) (tyTab_ok [(225,digitS),(230,upperS),(231,lowerS)]) (fns_cons digit_ok (fns_cons upper_ok (fns_cons lower_ok fns_nil))) ?_
 rintro w0 O0 ⟨c,b,u⟩ hc - -
 simp only [partS,entEnv]
 repeat' (first | exact trivial | refine eS rfl ?_ | refine ev_out_inv ?_ | refine rX [0,1,4] hc ?_ ?_ | (refine rC (fun hcond=>?_) (fun hcond=>?_)<;>try (cases hcond;done)))
 exact ev_fin hc [.tmp 4] rfl (.inl rfl) (by simp) (by unfold partF1;first | exact eR | refine eRM ?_)
abbrev chr (s:ByteArray) (i:Nat):Int:=((s.data.getD i 0).toNat:Int)
def namedH (s:ByteArray):Bool:=decide ((s.size:Int) < 1) || decide (32 < (s.size:Int)) || rangeB 48 57 (chr s 0) || chr s 0 == 45
def namedF (s:ByteArray) (big:Bool):Bool:=!namedH s && (List.range s.size).all fun i=>partF1 (chr s i) big
def namedS:Spec:={ ins:=[T9,.bool],pre:=fun _=>True,out:=fun (s,b,_)=>[.p .bool (namedF s b)] }
attribute [local go_sem] namedS
theorem named_ok:FnOk Tryz.prog 216 namedS:=by
 refine fn_ok Tryz.func216 (by kernel_rfl) rfl Tryz.ntmps216 (by decide) (by kernel_rfl) (tyTab_ok [(225,digitS),(226,partS)]) (fns_cons digit_ok (fns_cons part_ok fns_nil)) ?_
 rintro w0 O0 ⟨s,b,u⟩ hc - -
 simp only [namedS,entEnv]
 repeat' (first | exact trivial | refine eS rfl ?_ | refine ev_out_inv ?_ | refine rX [0,1,4,5,23,27,35] hc ?_ ?_ | (refine rC (fun hcond=>?_) (fun hcond=>?_)<;>try (cases hcond;done)))
 ·constructor
  ·intro h
   simp only [Bool.not_eq_true',Bool.or_eq_false_iff,decide_eq_false_iff_not] at h
   have:1≤(s.size:Int):=by omega
   exact this
  ·intro h
   simp only [Bool.not_eq_true',Bool.or_eq_false_iff,decide_eq_false_iff_not] at h
   have:1≤(s.size:Int):=by omega
   exact this
 ·have h1:namedH s=true:=by
   unfold namedH chr
   simp only [Bool.or_eq_true,decide_eq_true_eq,beq_iff_eq]
   exact hcond
  have h2:namedF s b=false:=by unfold namedF;rw [h1];rfl
  exact ev_fin hc [.tmp 4] rfl (.inl rfl) (by simp) (by rw [h2];first | exact eR | refine eRM ?_)
 ·have h1:namedH s=false:=by
   unfold namedH chr
   simp only [Bool.or_eq_false_iff,decide_eq_false_iff_not,beq_eq_false_iff_ne]
   exact ⟨⟨⟨by omega,by omega⟩,hcond.1.2⟩,hcond.2⟩
  have hsz:s.size≤32:=by omega
  refine ev_loop (ι:={k:Nat // k≤s.size∧((List.range k).all fun i=>partF1 (chr s i) b)=true}) (fun k=>⟨[(0,.p T9 s),(1,.p .bool b),(5,.p (.int .i64) (k.1:Int))],[]⟩) (fun k=>s.size - k.1) ⟨0,by simp⟩ (ent_match [] rfl rfl ?_ ?_) (fun k=>?_)
  ·first | exact eN | refine eM ?_
  ·first | exact eN | refine eM ?_
  ·obtain ⟨k,hk,hall⟩:=k
   repeat' (first | exact trivial | refine eS rfl ?_ | refine ev_out_inv ?_ | refine rX [0,1,4,5,23,27,35] hc ?_ ?_ | (refine rC (fun hcond=>?_) (fun hcond=>?_)<;>try (cases hcond;done)))
   ·exact hcond
   ·have hk2:k < s.size:=by omega
    have h2:namedF s b=false:=by
     unfold namedF
     rw [Bool.and_eq_false_iff]
     refine .inr (Bool.eq_false_iff.2 fun h=>?_)
     have:=List.all_eq_true.1 h k (List.mem_range.2 hk2)
     rw [show partF1 (chr s k) b=false from hcond] at this
     cases this
    exact ev_fin hc [.tmp 4] rfl (.inl rfl) (by simp) (by rw [h2];first | exact eR | refine eRM ?_)
   ·omega
   ·have hk2:k < s.size:=by omega
    refine ⟨⟨k + 1,by omega,?_⟩,by simp only;omega,ent_match [] rfl rfl ?_ ?_⟩
    ·rw [List.range_succ,List.all_append,hall]
     rw [Bool.true_and,List.all_cons,List.all_nil,Bool.and_true]
     exact hcond
    ·first | exact eN | refine eM ?_
    ·first | exact eN | refine eM ?_
   ·have hk2:k=s.size:=by omega
    subst hk2
    have h2:namedF s b=true:=by unfold namedF;rw [h1,hall];rfl
    exact ev_fin hc [.tmp 4] rfl (.inl rfl) (by simp) (by rw [h2];first | exact eR | refine eRM ?_)
def nameS:Spec:={ ins:=[T9],pre:=fun _=>True,out:=fun (s,_)=>[.p .bool (namedF s false)] }
def featureS:Spec:={ ins:=[T9],pre:=fun _=>True,out:=fun (s,_)=>[.p .bool (namedF s true)] }
theorem name_ok:FnOk Tryz.prog 205 nameS:=by
 refine fn_ok Tryz.func205 (by kernel_rfl) rfl Tryz.ntmps205 (by decide) (by kernel_rfl) (tyTab_ok [(216,namedS)]) (fns_cons named_ok fns_nil) ?_
 rintro w0 O0 ⟨s,u⟩ hc - -
 simp only [nameS,entEnv]
 repeat' (first | exact trivial | refine eS rfl ?_ | refine ev_out_inv ?_ | refine rX [0,2] hc ?_ ?_ | (refine rC (fun hcond=>?_) (fun hcond=>?_)<;>try (cases hcond;done)))
 exact ev_fin hc [.tmp 2] rfl (.inl rfl) (by simp) (by first | exact eR | refine eRM ?_)
theorem feature_ok:FnOk Tryz.prog 204 featureS:=by
 refine fn_ok Tryz.func204 (by kernel_rfl) rfl Tryz.ntmps204 (by decide) (by kernel_rfl) (tyTab_ok [(216,namedS)]) (fns_cons named_ok fns_nil) ?_
 rintro w0 O0 ⟨s,u⟩ hc - -
 simp only [featureS,entEnv]
 repeat' (first | exact trivial | refine eS rfl ?_ | refine ev_out_inv ?_ | refine rX [0,2] hc ?_ ?_ | (refine rC (fun hcond=>?_) (fun hcond=>?_)<;>try (cases hcond;done)))
 exact ev_fin hc [.tmp 2] rfl (.inl rfl) (by simp) (by first | exact eR | refine eRM ?_)
end
/- Functions of grammarlabref03: Among, find, Put. -/
section
theorem any_take2 {α:Type} (l:List α) (d:α) (p:α→Bool) {k:Nat} (h:k < l.length):(l.take (k + 1)).any p=((l.take k).any p || p (l.getD k d)):=by
 rw [take_snoc l d h,List.any_append];simp
theorem any_of_get2 {α:Type} (l:List α) (d:α) (p:α→Bool) {k:Nat} (h:k < l.length) (hp:p (l.getD k d)=true):l.any p=true :=
 List.any_eq_true.2 ⟨_,mem_of_take_succ l d h,hp⟩
def amongF (l:List ByteArray) (s:ByteArray):Bool:=l.any fun x=>strEq x s
def amongS:Spec:={ ins:=[T151,T9],pre:=fun _=>True,out:=fun (l,n,_)=>[.p .bool (amongF l n)],lend:=true }
attribute [local go_sem] amongS
theorem among_ok:FnOk Tryz.prog 183 amongS:=by
 refine fn_ok Tryz.func183 (by kernel_rfl) rfl Tryz.ntmps183 (by decide) (by kernel_rfl) (tyTab_ok []) fns_nil ?_
 rintro w0 O0 ⟨l,n,u⟩ hc ⟨⟨hl,-⟩,-⟩ -
 simp only [maxN] at hl
 simp only [amongS,entEnv]
 repeat' (first | exact trivial | refine eS rfl ?_ | refine ev_out_inv ?_ | refine rX [0,1,4,5,9,17] hc ?_ ?_ | (refine rC (fun hcond=>?_) (fun hcond=>?_)<;>try (cases hcond;done)))
 refine ev_loop (ι:={k:Nat // k≤l.length∧(l.take k).any (fun x=>strEq x n)=false}) (fun k=>⟨[(0,.p T151 l),(1,.p T9 n),(5,.p (.int .i64) (k.1:Int))],[]⟩) (fun k=>l.length - k.1) ⟨0,by simp⟩ (ent_match [] rfl rfl ?_ ?_) (fun k=>?_)
 ·first | exact eN | refine eM ?_
 ·first | exact eN | refine eM ?_
 ·obtain ⟨k,hk,hany⟩:=k
  repeat' (first | exact trivial | refine eS rfl ?_ | refine ev_out_inv ?_ | refine rX [0,1,4,5,9,17] hc ?_ ?_ | (refine rC (fun hcond=>?_) (fun hcond=>?_)<;>try (cases hcond;done)))
  ·exact eV
  ·have hkl:k < l.length:=by exact eV
   have h1:amongF l n=true:=any_of_get2 l ByteArray.empty _ hkl hcond
   exact ev_fin hc [.tmp 4] rfl (.inl rfl) (by simp) (by rw [h1];first | exact eR | refine eRM ?_)
  ·exact eV
  ·have hkl:k < l.length:=by exact eV
   refine ⟨⟨k + 1,by exact eV,?_⟩,by simp only;exact eV,ent_match [] rfl rfl ?_ ?_⟩
   ·rw [any_take2 l ByteArray.empty _ hkl,hany];exact hcond
   ·first | exact eN | refine eM ?_
   ·first | exact eN | refine eM ?_
  ·have hk:l.take k=l:=List.take_of_length_le (by exact eV)
   rw [hk] at hany
   have h1:amongF l n=false:=hany
   exact ev_fin hc [.tmp 4] rfl (.inl rfl) (by simp) (by rw [h1];first | exact eR | refine eRM ?_)
def atF (l:List ByteArray) (s:ByteArray):Nat:=(l.takeWhile fun x=>strLt x s).length
theorem tw_len {α:Type} (p:α→Bool) (d:α):∀ (l:List α) (k:Nat),k≤(l.takeWhile p).length→((k < l.length∧p (l.getD k d)=true)↔k + 1≤(l.takeWhile p).length)
 | [],k,h=>by simp
 | x :: l,k,h=>by
  by_cases hx:p x=true
  ·rw [List.takeWhile_cons,if_pos hx] at h ⊢
   cases k with
   | zero=>simp [hx]
   | succ k =>
    have:=tw_len p d l k (by simpa using h)
    simpa using this
  ·rw [List.takeWhile_cons,if_neg hx] at h ⊢
   have hk:k=0:=by simpa using h
   subst hk
   simp [hx]
theorem tw_le {α:Type} (p:α→Bool) (l:List α):(l.takeWhile p).length≤l.length:=(List.takeWhile_sublist p).length_le
def putF (l:List ByteArray) (s:ByteArray):List ByteArray :=
 if (decide (atF l s < l.length) && strEq (l.getD (atF l s) ByteArray.empty) s)=true then l else l.take (atF l s)++[s]++l.drop (atF l s)
def putS:Spec:={ ins:=[T151,T9],pre:=fun (l,_,_)=>List.length l≤100000,out:=fun (l,n,_)=>[.p T151 (putF l n)] }
attribute [local go_sem] putS
theorem put_ok:FnOk Tryz.prog 174 putS:=by
 refine fn_ok Tryz.func174 (by kernel_rfl) rfl Tryz.ntmps174 (by decide) (by kernel_rfl) (tyTab_ok []) fns_nil ?_
 rintro w0 O0 ⟨l,n,u⟩ hc - hl
 have hl:l.length≤100000:=hl
 simp only [putS,entEnv]
 repeat' (first | exact trivial | refine eS rfl ?_ | refine ev_out_inv ?_ | refine rX [0,1,4,5,6,18,32] hc ?_ ?_ | (refine rC (fun hcond=>?_) (fun hcond=>?_)<;>try (cases hcond;done)))
 refine ev_loop (ι:={k:Nat // k≤atF l n}) (fun k=>⟨[(0,.p T151 l),(1,.p T9 n),(5,.raw (.slice none 0 0)),(6,.p (.int .i64) (k.1:Int))],[]⟩) (fun k=>l.length - k.1) ⟨0,by simp⟩ (ent_match [] rfl rfl ?_ ?_) (fun k=>?_)
 ·first | exact eN | refine eM ?_
 ·first | exact eN | refine eM ?_
 ·obtain ⟨k,hk⟩:=k
  have hle:=tw_le (fun x=>strLt x n) l
  have htw:=tw_len (fun x=>strLt x n) ByteArray.empty l k hk
  simp only
  repeat' (first | exact trivial | refine eS rfl ?_ | refine ev_out_inv ?_ | refine rX [0,1,4,5,6,18,32] hc ?_ ?_ | (refine rC (fun hcond=>?_) (fun hcond=>?_)<;>try (cases hcond;done)))
  ·exact fun h=>h
  ·have h1:k < l.length∧strLt (l.getD k ByteArray.empty) n=true:=⟨by exact eV,hcond.2⟩
   exact eV
  ·have h1:k < l.length∧strLt (l.getD k ByteArray.empty) n=true:=⟨by exact eV,hcond.2⟩
   refine ⟨⟨k + 1,htw.1 h1⟩,by simp only;omega,ent_match [] rfl rfl ?_ ?_⟩
   ·first | exact eN | refine eM ?_
   ·first | exact eN | refine eM ?_
  ·exact fun h=>h
  ·rename_i hend
   have hk2:k=atF l n:=by
    refine Nat.le_antisymm hk (Nat.le_of_not_lt fun h=>?_)
    have:=htw.2 h
    rw [hend (Int.ofNat_lt.2 this.1)] at this
    cases this.2
   have h2:putF l n=l:=by
    unfold putF
    rw [← hk2,if_pos]
    rw [Bool.and_eq_true,decide_eq_true_eq]
    exact ⟨Int.ofNat_lt.1 hcond.1,hcond.2⟩
   exact ev_fin hc [.tmp 4] rfl (.inl rfl) (by simp) (by rw [h2];first | exact eR | refine eRM ?_)
  ·have h3:=List.length_take_le k l
   have h4:k≤l.length:=Nat.le_trans hk hle
   simp only [maxN]
   exact ⟨Int.ofNat_le.2 h4,by dsimp only [Ty.den] at *;omega⟩
  ·have h3:=List.length_take_le k l
   have h4:k≤l.length:=Nat.le_trans hk hle
   simp only [maxN]
   dsimp only [Ty.den] at *
   omega
  ·have h3:=List.length_take_le k l
   have h4:k≤l.length:=Nat.le_trans hk hle
   have h5:(l.drop k).length≤l.length:=by rw [List.length_drop];omega
   simp only [maxN]
   exact ⟨Int.ofNat_le.2 h4,by dsimp only [Ty.den] at *;omega⟩
  ·rename_i hend
   have hk2:k=atF l n:=by
    refine Nat.le_antisymm hk (Nat.le_of_not_lt fun h=>?_)
    have:=htw.2 h
    rw [hend (Int.ofNat_lt.2 this.1)] at this
    cases this.2
   have h2:putF l n=l.take k++[n]++l.drop k:=by
    unfold putF
    rw [← hk2,if_neg]
    rw [Bool.and_eq_true,decide_eq_true_eq]
    intro h
    rw [hcond (Int.ofNat_lt.2 h.1)] at h
    cases h.2
   have h4:k≤l.length:=Nat.le_trans hk hle
   have hlen:(l.take k).length + 1 + (l.drop k).length=(l.take k++[n]++l.drop k).length:=by simp only [List.length_append,List.length_singleton]
   rw [hlen,← h2]
   refine frzE [38] ?_
   exact ev_fin hc [.tmp 4] rfl (.inl rfl) (by simp) (by first | exact eR | refine eRM ?_)
end
/- Functions of grammarlabref02: word, Normal. -/
section
def wordF (b:List Int) (i:Int):Int:=if i < b.length then b.getD i.toNat 0 else 0
def wordS:Spec:={ ins:=[T142,T3],pre:=fun (_,i,_)=>(0:Int)≤i,out:=fun (b,i,_)=>[.p T209 (wordF b i)],lend:=true }
attribute [local go_sem] wordS
theorem word_ok:FnOk Tryz.prog 191 wordS:=by
 refine fn_ok Tryz.func191 (by kernel_rfl) rfl Tryz.ntmps191 (by decide) (by kernel_rfl) (tyTab_ok []) fns_nil ?_
 rintro w0 O0 ⟨b,i,u⟩ hc - hi
 simp only [wordS,entEnv]
 repeat' (first | exact trivial | refine eS rfl ?_ | refine ev_out_inv ?_ | refine rX [0,1,4,8] hc ?_ ?_ | (refine rC (fun hcond=>?_) (fun hcond=>?_)<;>try (cases hcond;done)))
 ·exact ⟨hi,hcond⟩
 ·have h1:wordF b i=b.getD i.toNat 0:=by unfold wordF;rw [if_pos hcond]
  exact ev_fin hc [.tmp 4] rfl (.inl rfl) (by simp) (by rw [h1];first | exact eR | refine eRM ?_)
 ·have h1:wordF b i=0:=by unfold wordF;rw [if_neg (Int.not_lt.2 hcond)]
  exact ev_fin hc [.tmp 4] rfl (.inl rfl) (by simp) (by rw [h1];first | exact eR | refine eRM ?_)
def normN (b:List Int):Nat→Nat
 | 0=>0
 | n + 1=>if b.getD n 0=0 then normN b n else n + 1
def normalF (b:List Int):List Int:=b.take (normN b b.length)
theorem normN_le (b:List Int):∀ n,normN b n≤n
 | 0=>Nat.le_refl _
 | n + 1=>by
  unfold normN
  split
  ·exact Nat.le_succ_of_le (normN_le b n)
  ·exact Nat.le_refl _
def normalS:Spec:={ ins:=[T142],pre:=fun (b,_)=>List.length b≤100000,out:=fun (b,_)=>[.p T142 (normalF b)] }
attribute [local go_sem] normalS
theorem normal_ok:FnOk Tryz.prog 176 normalS:=by
 refine fn_ok Tryz.func176 (by kernel_rfl) rfl Tryz.ntmps176 (by decide) (by kernel_rfl) (tyTab_ok []) fns_nil ?_
 rintro w0 O0 ⟨b,u⟩ hc - hb
 have hb:b.length≤100000:=hb
 simp only [normalS,entEnv]
 repeat' (first | exact trivial | refine eS rfl ?_ | refine ev_out_inv ?_ | refine rX [0,2,3,15] hc ?_ ?_ | (refine rC (fun hcond=>?_) (fun hcond=>?_)<;>try (cases hcond;done)))
 refine ev_loop (ι:={n:Nat // n≤b.length∧normN b n=normN b b.length}) (fun n=>⟨[(0,.p T142 b),(3,.p (.int .i64) (n.1:Int))],[]⟩) (fun n=>n.1) ⟨b.length,Nat.le_refl _,rfl⟩ (ent_match [] rfl rfl ?_ ?_) (fun n=>?_)
 ·first | exact eN | refine eM ?_
 ·first | exact eN | refine eM ?_
 ·obtain ⟨n,hn,hg⟩:=n
  simp only
  repeat' (first | exact trivial | refine eS rfl ?_ | refine ev_out_inv ?_ | refine rX [0,2,3,15] hc ?_ ?_ | (refine rC (fun hcond=>?_) (fun hcond=>?_)<;>try (cases hcond;done)))
  ·constructor
   ·exact eV
   ·intro h
    refine ⟨?_,?_⟩<;>exact eV
  ·exact eV
  ·obtain ⟨h1,h2⟩:=hcond
   obtain ⟨m,rfl⟩:∃ m,n=m + 1:=⟨n - 1,by omega⟩
   have e:(((m + 1:Nat):Int) - 1)=(m:Int):=by omega
   rw [e] at h2
   have h2:b.getD m 0=0:=h2
   have hg2:normN b m=normN b b.length:=by
    rw [← hg]
    show _=if b.getD m 0=0 then normN b m else m + 1
    rw [if_pos h2]
   refine ⟨⟨m,by omega,hg2⟩,by simp,ent_match [] rfl rfl ?_ ?_⟩
   ·first | exact eN | refine eM ?_
   ·simp only [e]
    first | exact eN | refine eM ?_
  ·have h3:=List.length_take_le n b
   simp only [maxN]
   exact ⟨Int.ofNat_le.2 hn,by dsimp only [Ty.den] at *;omega⟩
  ·have hend:normN b n=n:=by
    cases n with
    | zero=>rfl
    | succ m =>
     have e:(((m + 1:Nat):Int) - 1)=(m:Int):=by omega
     rw [e] at hcond
     have h2:=hcond (by omega)
     have h2:¬ b.getD m 0=0:=h2
     show (if b.getD m 0=0 then normN b m else m + 1)=m + 1
     rw [if_neg h2]
   have h1:normalF b=b.take n:=by unfold normalF;rw [← hg,hend]
   rw [← h1]
   refine frzE [18] ?_
   exact ev_fin hc [.tmp 2] rfl (.inl rfl) (by simp) (by first | exact eR | refine eRM ?_)
end
/- Functions of grammarlabref02: Has. -/
section
attribute [local go_sem] wordS normalS
def bitF (w:Int) (r:Int):Bool:=bitsV .and .u64 (shrV .u64 w r) 1 == 1
def hasF (b:List Int) (i:Int):Bool:=if (decide (i < 0) || decide ((b.length:Int)≤i.tdiv 64))=true then false else bitF (b.getD (i.tdiv 64).toNat 0) (i.tmod 64)
def hasS:Spec:={ ins:=[T142,T3],pre:=fun _=>True,out:=fun (b,i,_)=>[.p .bool (hasF b i)],lend:=true }
theorem shr_le {w:Int} (h0:0≤w) (r:Int):0≤shrV .u64 w r∧shrV .u64 w r≤w:=by
 unfold shrV
 have hp:(0:Int) < 2 ^ (min r.toNat IntKind.u64.bits):=Int.pow_pos (by decide)
 rw [Int.fdiv_eq_ediv_of_nonneg _ (Int.le_of_lt hp)]
 exact ⟨Int.ediv_nonneg h0 (Int.le_of_lt hp),Int.ediv_le_self _ h0⟩
theorem has_ok:FnOk Tryz.prog 187 hasS:=by
 refine fn_ok Tryz.func187 (by kernel_rfl) rfl Tryz.ntmps187 (by decide) (by kernel_rfl) (tyTab_ok []) fns_nil ?_
 rintro w0 O0 ⟨b,i,u⟩ hc ⟨⟨hbl,hbe⟩,hik,-⟩ -
 have hik:InK .i64 i:=hik
 rw [inK_i64] at hik
 have htd:0≤i→Int.tdiv i 64=i / 64∧Int.tmod i 64=i % 64:=fun h=>⟨Int.tdiv_eq_ediv_of_nonneg h,Int.tmod_eq_emod_of_nonneg h⟩
 simp only [hasS,entEnv]
 repeat' (first | exact trivial | refine eS rfl ?_ | refine ev_out_inv ?_ | refine rX [0,1,4,13] hc ?_ ?_ | (refine rC (fun hcond=>?_) (fun hcond=>?_)<;>try (cases hcond;done)))
 ·intro h
  have h0:0≤i:=by simpa using h
  obtain ⟨e1,e2⟩:=htd h0
  rw [e1]
  refine ⟨by decide,?_,?_⟩<;>exact eV
 ·have h1:hasF b i=false:=by
   unfold hasF
   rw [if_pos]
   rw [Bool.or_eq_true,decide_eq_true_eq,decide_eq_true_eq]
   exact hcond
  exact ev_fin hc [.tmp 4] rfl (.inl rfl) (by simp) (by rw [h1];first | exact eR | refine eRM ?_)
 ·obtain ⟨h0,hlt⟩:=hcond
  obtain ⟨e1,e2⟩:=htd h0
  rw [e1] at hlt
  have hw:InK .u64 (b.getD (i / 64).toNat 0):=hbe _ (mem_of_take_succ b 0 (by exact eV))
  rw [inK_u64] at hw
  have hs:=shr_le hw.1 (i % 64)
  rw [e1,e2]
  refine ⟨⟨by decide,by exact eV,by exact eV⟩,⟨by exact eV,by exact eV⟩,⟨by decide,by exact eV,by exact eV⟩,⟨by exact eV,by exact eV⟩,by exact eV,hs.1,Int.le_trans hs.2 hw.2⟩
 ·have h1:hasF b i=bitF (b.getD (i.tdiv 64).toNat 0) (i.tmod 64):=by
   unfold hasF
   rw [if_neg]
   rw [Bool.or_eq_true,decide_eq_true_eq,decide_eq_true_eq]
   rintro (h | h)<;>omega
  exact ev_fin hc [.tmp 4] rfl (.inl rfl) (by simp) (by rw [h1];unfold bitF;first | exact eR | refine eRM ?_)
end
/- Functions of grammarlabref02: And, Minus. -/
section
attribute [local go_sem] wordS normalS
def zipL (op:BinOp) (a b:List Int) (n:Nat):List Int:=(List.range n).map fun i=>bitsV op .u64 (a.getD i 0) (wordF b (i:Int))
theorem zipL_len (op:BinOp) (a b:List Int) (n:Nat):(zipL op a b n).length=n:=by simp [zipL]
theorem zipL_succ (op:BinOp) (a b:List Int) (n:Nat):zipL op a b (n + 1)=zipL op a b n++[bitsV op .u64 (a.getD n 0) (wordF b (n:Int))]:=by simp [zipL,List.range_succ]
def andF (a b:List Int):List Int:=normalF (zipL .and a b a.length)
def andS:Spec:={ ins:=[T142,T142],pre:=fun (a,_,_)=>List.length a≤100000,out:=fun (a,b,_)=>[.p T142 (andF a b)] }
theorem and_ok:FnOk Tryz.prog 143 andS:=by
 refine fn_ok Tryz.func143 (by kernel_rfl) rfl Tryz.ntmps143 (by decide) (by kernel_rfl) (tyTab_ok [(191,wordS),(176,normalS)]) (fns_cons word_ok (fns_cons normal_ok fns_nil)) ?_
 rintro w0 O0 ⟨a,b,u⟩ hc - ha
 have ha:a.length≤100000:=ha
 simp only [andS,entEnv]
 repeat' (first | exact trivial | refine eS rfl ?_ | refine ev_out_inv ?_ | refine rX [0,1,4,5,6,10] hc ?_ ?_ | (refine rC (fun hcond=>?_) (fun hcond=>?_)<;>try (cases hcond;done)))
 refine ev_loop (ι:={n:Nat // n≤a.length}) (fun n=>⟨[(0,.p T142 a),(1,.p T142 b),(5,.sr 23 T209 0 n.1),(6,.p (.int .i64) (n.1:Int))],[(23,.arr 209 T209 (zipL .and a b n.1))]⟩) (fun n=>a.length - n.1) ⟨0,Nat.zero_le _⟩ (ent_match [(23,.nil)] rfl rfl ?_ ?_) (fun n=>?_)
 ·first | exact eN | refine eM ?_
  rfl
 ·first | exact eN | refine eM ?_
 ·obtain ⟨n,hn⟩:=n
  have hz:=zipL_len .and a b n
  have hs:=zipL_succ .and a b n
  simp only
  repeat' (first | exact trivial | refine eS rfl ?_ | refine ev_out_inv ?_ | refine rX [0,1,4,5,6,10] hc ?_ ?_ | (refine rC (fun hcond=>?_) (fun hcond=>?_)<;>try (cases hcond;done)))
  ·refine ⟨hcond,?_⟩
   simp only [maxN]
   dsimp only [Ty.den] at *
   omega
  ·exact eV
  ·have hn2:n < a.length:=by exact eV
   refine ⟨⟨n + 1,by omega⟩,by simp only;omega,ent_match [(23,.nm 23)] rfl rfl ?_ ?_⟩
   ·simp only [hs]
    first | exact eN | refine eM ?_
    rw [List.take_of_length_le (by rw [hz];exact Nat.le_refl _)]
   ·first | exact eN | refine eM ?_
  ·have hn2:n=a.length:=by exact eV
   subst hn2
   refine frzE [23] ?_
   have ht:(zipL .and a b a.length).take a.length=zipL .and a b a.length:=List.take_of_length_le (by rw [zipL_len];exact Nat.le_refl _)
   repeat' (first | exact trivial | refine eS rfl ?_ | refine ev_out_inv ?_ | refine rX [0,1,4,5,6,10] hc ?_ ?_ | (refine rC (fun hcond=>?_) (fun hcond=>?_)<;>try (cases hcond;done)))
   ·rw [ht,zipL_len];exact ha
   ·rw [ht]
    exact ev_fin hc [.tmp 4] rfl (.inl rfl) (by simp) (by unfold andF;first | exact eR | refine eRM ?_)
def minusF (a b:List Int):List Int:=normalF (zipL .andNot a b a.length)
def minusS:Spec:={ ins:=[T142,T142],pre:=fun (a,_,_)=>List.length a≤100000,out:=fun (a,b,_)=>[.p T142 (minusF a b)] }
attribute [local go_sem] minusS
theorem minus_ok:FnOk Tryz.prog 211 minusS:=by
 refine fn_ok Tryz.func211 (by kernel_rfl) rfl Tryz.ntmps211 (by decide) (by kernel_rfl) (tyTab_ok [(191,wordS),(176,normalS)]) (fns_cons word_ok (fns_cons normal_ok fns_nil)) ?_
 rintro w0 O0 ⟨a,b,u⟩ hc - ha
 have ha:a.length≤100000:=ha
 simp only [minusS,entEnv]
 repeat' (first | exact trivial | refine eS rfl ?_ | refine ev_out_inv ?_ | refine rX [0,1,4,5,6,10] hc ?_ ?_ | (refine rC (fun hcond=>?_) (fun hcond=>?_)<;>try (cases hcond;done)))
 refine ev_loop (ι:={n:Nat // n≤a.length}) (fun n=>⟨[(0,.p T142 a),(1,.p T142 b),(5,.sr 23 T209 0 n.1),(6,.p (.int .i64) (n.1:Int))],[(23,.arr 209 T209 (zipL .andNot a b n.1))]⟩) (fun n=>a.length - n.1) ⟨0,Nat.zero_le _⟩ (ent_match [(23,.nil)] rfl rfl ?_ ?_) (fun n=>?_)
 ·first | exact eN | refine eM ?_
  rfl
 ·first | exact eN | refine eM ?_
 ·obtain ⟨n,hn⟩:=n
  have hz:=zipL_len .andNot a b n
  have hs:=zipL_succ .andNot a b n
  simp only
  repeat' (first | exact trivial | refine eS rfl ?_ | refine ev_out_inv ?_ | refine rX [0,1,4,5,6,10] hc ?_ ?_ | (refine rC (fun hcond=>?_) (fun hcond=>?_)<;>try (cases hcond;done)))
  ·refine ⟨hcond,?_⟩
   simp only [maxN]
   dsimp only [Ty.den] at *
   omega
  ·exact eV
  ·have hn2:n < a.length:=by exact eV
   refine ⟨⟨n + 1,by omega⟩,by simp only;omega,ent_match [(23,.nm 23)] rfl rfl ?_ ?_⟩
   ·simp only [hs]
    first | exact eN | refine eM ?_
    rw [List.take_of_length_le (by rw [hz];exact Nat.le_refl _)]
   ·first | exact eN | refine eM ?_
  ·have hn2:n=a.length:=by exact eV
   subst hn2
   refine frzE [23] ?_
   have ht:(zipL .andNot a b a.length).take a.length=zipL .andNot a b a.length:=List.take_of_length_le (by rw [zipL_len];exact Nat.le_refl _)
   repeat' (first | exact trivial | refine eS rfl ?_ | refine ev_out_inv ?_ | refine rX [0,1,4,5,6,10] hc ?_ ?_ | (refine rC (fun hcond=>?_) (fun hcond=>?_)<;>try (cases hcond;done)))
   ·rw [ht,zipL_len];exact ha
   ·rw [ht]
    exact ev_fin hc [.tmp 4] rfl (.inl rfl) (by simp) (by unfold minusF;first | exact eR | refine eRM ?_)
def subsetF (a b:List Int):Bool:=((minusF a b).length:Int) == 0
def subsetS:Spec:={ ins:=[T142,T142],pre:=fun (a,_,_)=>List.length a≤100000,out:=fun (a,b,_)=>[.p .bool (subsetF a b)],lend:=true }
attribute [local go_sem] subsetS
theorem subset_ok:FnOk Tryz.prog 190 subsetS:=by
 refine fn_ok Tryz.func190 (by kernel_rfl) rfl Tryz.ntmps190 (by decide) (by kernel_rfl) (tyTab_ok [(211,minusS)]) (fns_cons minus_ok fns_nil) ?_
 rintro w0 O0 ⟨a,b,u⟩ hc - ha
 have ha:a.length≤100000:=ha
 simp only [subsetS,entEnv]
 repeat' (first | exact trivial | refine eS rfl ?_ | refine ev_out_inv ?_ | refine rX [0,1,4] hc ?_ ?_ | (refine rC (fun hcond=>?_) (fun hcond=>?_)<;>try (cases hcond;done)))
 ·exact ha
 ·exact ev_fin hc [.tmp 4] rfl (.inl rfl) (by simp) (by unfold subsetF;first | exact eR | refine eRM ?_)
def equalBF (a b:List Int):Bool:=subsetF a b && subsetF b a
def equalBS:Spec:={ ins:=[T142,T142],pre:=fun (a,b,_)=>List.length a≤100000∧List.length b≤100000,out:=fun (a,b,_)=>[.p .bool (equalBF a b)],lend:=true }
theorem equalB_ok:FnOk Tryz.prog 186 equalBS:=by
 refine fn_ok Tryz.func186 (by kernel_rfl) rfl Tryz.ntmps186 (by decide) (by kernel_rfl) (tyTab_ok [(190,subsetS)]) (fns_cons subset_ok fns_nil) ?_
 rintro w0 O0 ⟨a,b,u⟩ hc - ⟨ha,hb⟩
 simp only [equalBS,entEnv]
 repeat' (first | exact trivial | refine eS rfl ?_ | refine ev_out_inv ?_ | refine rX [0,1,4] hc ?_ ?_ | (refine rC (fun hcond=>?_) (fun hcond=>?_)<;>try (cases hcond;done)))
 ·exact ⟨ha,fun _=>hb⟩
 ·exact ev_fin hc [.tmp 4] rfl (.inl rfl) (by simp) (by unfold equalBF;first | exact eR | refine eRM ?_)
end
/- Functions of grammarlabref02: Same, List. -/
section
attribute [local go_sem] hasS
def sameF (a b:List Int):Bool:=decide (a=b)
def sameS:Spec:={ ins:=[T142,T142],pre:=fun _=>True,out:=fun (a,b,_)=>[.p .bool (sameF a b)],lend:=true }
theorem same_ok:FnOk Tryz.prog 177 sameS:=by
 refine fn_ok Tryz.func177 (by kernel_rfl) rfl Tryz.ntmps177 (by decide) (by kernel_rfl) (tyTab_ok []) fns_nil ?_
 rintro w0 O0 ⟨a,b,u⟩ hc ⟨⟨ha,-⟩,-⟩ -
 simp only [maxN] at ha
 simp only [sameS,entEnv]
 repeat' (first | exact trivial | refine eS rfl ?_ | refine ev_out_inv ?_ | refine rX [0,1,4,5,10,14,25] hc ?_ ?_ | (refine rC (fun hcond=>?_) (fun hcond=>?_)<;>try (cases hcond;done)))
 ·have h1:sameF a b=false:=by
   unfold sameF
   rw [decide_eq_false_iff_not]
   rintro rfl
   exact hcond rfl
  exact ev_fin hc [.tmp 4] rfl (.inl rfl) (by simp) (by rw [h1];first | exact eR | refine eRM ?_)
 ·have hab:a.length=b.length:=by
   have:(a.length:Int)=(b.length:Int):=by simpa using hcond
   exact Int.ofNat_inj.1 this
  refine ev_loop (ι:={k:Nat // k≤a.length∧a.take k=b.take k}) (fun k=>⟨[(0,.p T142 a),(1,.p T142 b),(5,.p (.int .i64) (k.1:Int))],[]⟩) (fun k=>a.length - k.1) ⟨0,Nat.zero_le _,rfl⟩ (ent_match [] rfl rfl ?_ ?_) (fun k=>?_)
  ·first | exact eN | refine eM ?_
  ·first | exact eN | refine eM ?_
  ·obtain ⟨k,hk,hf⟩:=k
   simp only
   repeat' (first | exact trivial | refine eS rfl ?_ | refine ev_out_inv ?_ | refine rX [0,1,4,5,10,14,25] hc ?_ ?_ | (refine rC (fun hcond=>?_) (fun hcond=>?_)<;>try (cases hcond;done)))
   ·exact ⟨hcond,by rw [← hab];exact hcond⟩
   ·have hk2:k < a.length:=by exact eV
    have h1:sameF a b=false:=by
     unfold sameF
     rw [decide_eq_false_iff_not]
     rintro rfl
     exact hcond rfl
    exact ev_fin hc [.tmp 4] rfl (.inl rfl) (by simp) (by rw [h1];first | exact eR | refine eRM ?_)
   ·exact eV
   ·have hk2:k < a.length:=by exact eV
    have he:a.getD k 0=b.getD k 0:=by simpa using hcond
    refine ⟨⟨k + 1,by omega,?_⟩,by simp only;omega,ent_match [] rfl rfl ?_ ?_⟩
    ·rw [take_snoc a 0 hk2,take_snoc b 0 (by omega),hf]
     rw [show a.getD k 0=b.getD k 0 from he]
    ·first | exact eN | refine eM ?_
    ·first | exact eN | refine eM ?_
   ·have hk2:k=a.length:=by exact eV
    subst hk2
    rw [List.take_length,hab,List.take_length] at hf
    have h1:sameF a b=true:=by unfold sameF;rw [hf];simp
    exact ev_fin hc [.tmp 4] rfl (.inl rfl) (by simp) (by rw [h1];first | exact eR | refine eRM ?_)
end
/- Functions of grammarlabref02: List, Count. -/
section
attribute [local go_sem] hasS
def listG (b:List Int) (n:Nat):List Int:=((List.range n).filter fun (i:Nat)=>hasF b (i:Int)).map fun (i:Nat)=>(i:Int)
def listF (b:List Int):List Int:=listG b (64 * b.length)
theorem listG_succ (b:List Int) (n:Nat):listG b (n + 1)=listG b n++if hasF b (n:Int)=true then [(n:Int)] else []:=by
 unfold listG
 rw [List.range_succ,List.filter_append,List.map_append]
 congr 1
 rw [List.filter_cons,List.filter_nil]
 split<;>rfl
theorem listG_len (b:List Int) (n:Nat):(listG b n).length≤n:=by
 unfold listG
 rw [List.length_map]
 exact Nat.le_trans (List.length_filter_le _ _) (by simp)
def listS:Spec:={ ins:=[T142],pre:=fun (b,_)=>List.length b≤100000,out:=fun (b,_)=>[.p T40 (listF b)] }
attribute [local go_sem] listS
theorem list_ok:FnOk Tryz.prog 210 listS:=by
 refine fn_ok Tryz.func210 (by kernel_rfl) rfl Tryz.ntmps210 (by decide) (by kernel_rfl) (tyTab_ok [(187,hasS)]) (fns_cons has_ok fns_nil) ?_
 rintro w0 O0 ⟨b,u⟩ hc - hb
 have hb:b.length≤100000:=hb
 simp only [listS,entEnv]
 repeat' (first | exact trivial | refine eS rfl ?_ | refine ev_out_inv ?_ | refine rX [0,2,3,4,9,14] hc ?_ ?_ | (refine rC (fun hcond=>?_) (fun hcond=>?_)<;>try (cases hcond;done)))
 refine ev_loop (ι:={n:Nat // n≤64 * b.length}) (fun n=>⟨[(0,.p T142 b),(3,.sr 18 T3 0 (listG b n.1).length),(4,.p (.int .i64) (n.1:Int))],[(18,.arr 3 T3 (listG b n.1))]⟩) (fun n=>64 * b.length - n.1) ⟨0,Nat.zero_le _⟩ (ent_match [(18,.nil)] rfl rfl ?_ ?_) (fun n=>?_)
 ·first | exact eN | refine eM ?_
  rfl
 ·first | exact eN | refine eM ?_
  rfl
 ·obtain ⟨n,hn⟩:=n
  have hz:=listG_len b n
  have hs:=listG_succ b n
  simp only
  repeat' (first | exact trivial | refine eS rfl ?_ | refine ev_out_inv ?_ | refine rX [0,2,3,4,9,14] hc ?_ ?_ | (refine rC (fun hcond=>?_) (fun hcond=>?_)<;>try (cases hcond;done)))
  ·exact eV
  ·rw [hcond,if_pos rfl] at hs
   simp only [maxN]
   dsimp only [Ty.den] at *
   omega
  ·exact eV
  ·have hn2:n < 64 * b.length:=by exact eV
   rw [hcond,if_pos rfl] at hs
   refine ⟨⟨n + 1,by omega⟩,by simp only;omega,ent_match [(18,.nm 18)] rfl rfl ?_ ?_⟩
   ·simp only [hs]
    first | exact eN | refine eM ?_
   ·simp only [hs]
    first | exact eN | refine eM ?_
  ·exact eV
  ·have hn2:n < 64 * b.length:=by exact eV
   rw [hcond,if_neg (by simp),List.append_nil] at hs
   refine ⟨⟨n + 1,by omega⟩,by simp only;omega,ent_match [(18,.nm 18)] rfl rfl ?_ ?_⟩
   ·simp only [hs]
    first | exact eN | refine eM ?_
   ·simp only [hs]
    first | exact eN | refine eM ?_
  ·have hn2:n=64 * b.length:=by exact eV
   subst hn2
   refine frzE [18] ?_
   exact ev_fin hc [.tmp 2] rfl (.inl rfl) (by simp) (by unfold listF;first | exact eR | refine eRM ?_)
def countS:Spec:={ ins:=[T142],pre:=fun (b,_)=>List.length b≤100000,out:=fun (b,_)=>[.p T3 ((listF b).length:Int)],lend:=true }
theorem count_ok:FnOk Tryz.prog 189 countS:=by
 refine fn_ok Tryz.func189 (by kernel_rfl) rfl Tryz.ntmps189 (by decide) (by kernel_rfl) (tyTab_ok [(210,listS)]) (fns_cons list_ok fns_nil) ?_
 rintro w0 O0 ⟨b,u⟩ hc - hb
 simp only [countS,entEnv]
 repeat' (first | exact trivial | refine eS rfl ?_ | refine ev_out_inv ?_ | refine rX [0,2] hc ?_ ?_ | (refine rC (fun hcond=>?_) (fun hcond=>?_)<;>try (cases hcond;done)))
 ·exact hb
 ·exact ev_fin hc [.tmp 2] rfl (.inl rfl) (by simp) (by first | exact eR | refine eRM ?_)
end
/- Functions of grammarlabref03: find, sizes, ready. -/
section
attribute [local go_sem] amongS nameS
abbrev DeclD:=ByteArray×List ByteArray×List (ByteArray×ByteArray)
abbrev d0:DeclD:=(ByteArray.empty,[],[])
def dfindG (s:ByteArray):Nat→List DeclD→Int
 | _,[]=>-1
 | k,x :: l=>if strEq x.1 s=true then (k:Int) else dfindG s (k + 1) l
def dfindF (l:List DeclD) (s:ByteArray):Int:=dfindG s 0 l
theorem dfindG_step (s:ByteArray) (l:List DeclD) {k:Nat} (h:k < l.length):dfindG s k (l.drop k)=if strEq (l.getD k d0).1 s=true then (k:Int) else dfindG s (k + 1) (l.drop (k + 1)):=by
 rw [List.drop_eq_getElem_cons h]
 have e:l.getD k d0=l[k]:=by simp [List.getD_eq_getElem?_getD,h]
 rw [e]
 rfl
def dfindS:Spec:={ ins:=[T22,T9],pre:=fun _=>True,out:=fun (l,s,_)=>[.p T3 (dfindF l s)] }
attribute [local go_sem] dfindS
theorem dfind_ok:FnOk Tryz.prog 206 dfindS:=by
 refine fn_ok Tryz.func206 (by kernel_rfl) rfl Tryz.ntmps206 (by decide) (by kernel_rfl) (tyTab_ok []) fns_nil ?_
 rintro w0 O0 ⟨l,s,u⟩ hc ⟨⟨hl,-⟩,-⟩ -
 simp only [maxN] at hl
 simp only [dfindS,entEnv]
 repeat' (first | exact trivial | refine eS rfl ?_ | refine ev_out_inv ?_ | refine rX [0,1,4,5,9,18] hc ?_ ?_ | (refine rC (fun hcond=>?_) (fun hcond=>?_)<;>try (cases hcond;done)))
 refine ev_loop (ι:={k:Nat // k≤l.length∧dfindG s k (l.drop k)=dfindF l s}) (fun k=>⟨[(0,.p T22 l),(1,.p T9 s),(5,.p (.int .i64) (k.1:Int))],[]⟩) (fun k=>l.length - k.1) ⟨0,Nat.zero_le _,rfl⟩ (ent_match [] rfl rfl ?_ ?_) (fun k=>?_)
 ·first | exact eN | refine eM ?_
 ·first | exact eN | refine eM ?_
 ·obtain ⟨k,hk,hf⟩:=k
  simp only
  repeat' (first | exact trivial | refine eS rfl ?_ | refine ev_out_inv ?_ | refine rX [0,1,4,5,9,18] hc ?_ ?_ | (refine rC (fun hcond=>?_) (fun hcond=>?_)<;>try (cases hcond;done)))
  ·exact hcond
  ·have hk2:k < l.length:=by exact eV
   rw [dfindG_step s l hk2,if_pos hcond] at hf
   exact ev_fin hc [.tmp 4] rfl (.inl rfl) (by simp) (by rw [← hf];first | exact eR | refine eRM ?_)
  ·exact eV
  ·have hk2:k < l.length:=by exact eV
   rw [dfindG_step s l hk2,if_neg (by rw [hcond];simp)] at hf
   refine ⟨⟨k + 1,by omega,hf⟩,by simp only;omega,ent_match [] rfl rfl ?_ ?_⟩
   ·first | exact eN | refine eM ?_
   ·first | exact eN | refine eM ?_
  ·have hk2:l.drop k=[]:=List.drop_eq_nil_of_le (by exact eV)
   rw [hk2] at hf
   exact ev_fin hc [.tmp 4] rfl (.inl rfl) (by simp) (by rw [← hf];first | exact eR | refine eRM ?_;rfl)
def sizesG:List DeclD→Int
 | []=>0
 | x :: l=>if 256 < x.2.1.length∨256 < x.2.2.length then 7 else sizesG l
def sizesF (l:List DeclD):Int:=if 256 < l.length then 7 else sizesG l
theorem sizesG_step (l:List DeclD) {k:Nat} (h:k < l.length):sizesG (l.drop k)=if 256 < (l.getD k d0).2.1.length∨256 < (l.getD k d0).2.2.length then 7 else sizesG (l.drop (k + 1)):=by
 rw [List.drop_eq_getElem_cons h]
 have e:l.getD k d0=l[k]:=by simp [List.getD_eq_getElem?_getD,h]
 rw [e]
 rfl
def sizesS:Spec:={ ins:=[T22],pre:=fun _=>True,out:=fun (l,_)=>[.p T79 (sizesF l)] }
attribute [local go_sem] sizesS
theorem sizes_ok:FnOk Tryz.prog 178 sizesS:=by
 refine fn_ok Tryz.func178 (by kernel_rfl) rfl Tryz.ntmps178 (by decide) (by kernel_rfl) (tyTab_ok []) fns_nil ?_
 rintro w0 O0 ⟨l,u⟩ hc ⟨⟨hl,-⟩,-⟩ -
 simp only [maxN] at hl
 simp only [sizesS,entEnv]
 repeat' (first | exact trivial | refine eS rfl ?_ | refine ev_out_inv ?_ | refine rX [0,2,3,6,10,28] hc ?_ ?_ | (refine rC (fun hcond=>?_) (fun hcond=>?_)<;>try (cases hcond;done)))
 ·have h1:sizesF l=7:=by unfold sizesF;rw [if_pos (by exact eV)]
  exact ev_fin hc [.tmp 2] rfl (.inl rfl) (by simp) (by rw [h1];first | exact eR | refine eRM ?_)
 ·have h1:sizesF l=sizesG l:=by unfold sizesF;rw [if_neg (by exact eV)]
  refine ev_loop (ι:={k:Nat // k≤l.length∧sizesG (l.drop k)=sizesF l}) (fun k=>⟨[(0,.p T22 l),(3,.p (.int .i64) (k.1:Int))],[]⟩) (fun k=>l.length - k.1) ⟨0,Nat.zero_le _,h1.symm⟩ (ent_match [] rfl rfl ?_ ?_) (fun k=>?_)
  ·first | exact eN | refine eM ?_
  ·first | exact eN | refine eM ?_
  ·obtain ⟨k,hk,hf⟩:=k
   simp only
   repeat' (first | exact trivial | refine eS rfl ?_ | refine ev_out_inv ?_ | refine rX [0,2,3,6,10,28] hc ?_ ?_ | (refine rC (fun hcond=>?_) (fun hcond=>?_)<;>try (cases hcond;done)))
   ·exact ⟨hcond,fun _=>hcond⟩
   ·have hk2:k < l.length:=by exact eV
    rw [sizesG_step l hk2,if_pos (by
     rcases hcond with h | h
     ·exact .inl (Int.ofNat_lt.1 h)
     ·exact .inr (Int.ofNat_lt.1 h))] at hf
    exact ev_fin hc [.tmp 2] rfl (.inl rfl) (by simp) (by rw [← hf];first | exact eR | refine eRM ?_)
   ·exact eV
   ·have hk2:k < l.length:=by exact eV
    rw [sizesG_step l hk2,if_neg (by
     rintro (h | h)
     ·have:=Int.ofNat_le.1 hcond.1;exact absurd h (Nat.not_lt.2 this)
     ·have:=Int.ofNat_le.1 hcond.2;exact absurd h (Nat.not_lt.2 this))] at hf
    refine ⟨⟨k + 1,by omega,hf⟩,by simp only;omega,ent_match [] rfl rfl ?_ ?_⟩
    ·first | exact eN | refine eM ?_
    ·first | exact eN | refine eM ?_
   ·have hk2:l.drop k=[]:=List.drop_eq_nil_of_le (by exact eV)
    rw [hk2] at hf
    exact ev_fin hc [.tmp 2] rfl (.inl rfl) (by simp) (by rw [← hf];first | exact eR | refine eRM ?_;rfl)
theorem all_take1 {α:Type} (l:List α) (d:α) (p:α→Bool) {k:Nat} (h:k < l.length):(l.take (k + 1)).all p=((l.take k).all p && p (l.getD k d)):=by
 rw [take_snoc l d h,List.all_append];simp
def readyF (x:DeclD) (done:List ByteArray):Bool:=x.2.1.all fun s=>amongF done s
def readyS:Spec:={ ins:=[T154,T151],pre:=fun _=>True,out:=fun (x,l,_)=>[.p .bool (readyF x l)],lend:=true }
attribute [local go_sem] readyS
theorem ready_ok:FnOk Tryz.prog 207 readyS:=by
 refine fn_ok Tryz.func207 (by kernel_rfl) rfl Tryz.ntmps207 (by decide) (by kernel_rfl) (tyTab_ok [(183,amongS)]) (fns_cons among_ok fns_nil) ?_
 rintro w0 O0 ⟨⟨nm,sup,fe⟩,l,u⟩ hc ⟨⟨-,⟨hsz,-⟩,-⟩,-⟩ -
 simp only [maxN] at hsz
 simp only [readyS,entEnv]
 repeat' (first | exact trivial | refine eS rfl ?_ | refine ev_out_inv ?_ | refine rX [0,1,2,4,5,10,20] hc ?_ ?_ | (refine rC (fun hcond=>?_) (fun hcond=>?_)<;>try (cases hcond;done)))
 refine ev_loop (ι:={k:Nat // k≤sup.length∧(sup.take k).all (fun s=>amongF l s)=true}) (fun k=>⟨[(1,.p T151 l),(2,.bp 2 [] 0),(5,.p (.int .i64) (k.1:Int))],[(2,.box 154 true [.p T9 nm,.p T151 sup,.p T152 fe])]⟩) (fun k=>sup.length - k.1) ⟨0,by simp⟩ (ent_match [(2,.nm 2)] rfl rfl ?_ ?_) (fun k=>?_)
 ·first | exact eN | refine eM ?_
 ·first | exact eN | refine eM ?_
 ·obtain ⟨k,hk,hf⟩:=k
  simp only
  repeat' (first | exact trivial | refine eS rfl ?_ | refine ev_out_inv ?_ | refine rX [0,1,2,4,5,10,20] hc ?_ ?_ | (refine rC (fun hcond=>?_) (fun hcond=>?_)<;>try (cases hcond;done)))
  ·exact hcond
  ·have hk2:k < sup.length:=by exact eV
   have h1:readyF (nm,sup,fe) l=false:=by
    unfold readyF
    refine Bool.eq_false_iff.2 fun h=>?_
    have:=List.all_eq_true.1 h _ (mem_of_take_succ sup ByteArray.empty hk2)
    rw [hcond] at this
    cases this
   exact ev_fin hc [.tmp 4] rfl (.inl rfl) (by simp) (by rw [h1];first | exact eR | refine eRM ?_)
  ·have:=hsz
   exact eV
  ·have hk2:k < sup.length:=by exact eV
   refine ⟨⟨k + 1,by omega,?_⟩,by simp only;omega,ent_match [(2,.nm 2)] rfl rfl ?_ ?_⟩
   ·rw [all_take1 sup ByteArray.empty _ hk2,hf]
    exact hcond
   ·first | exact eN | refine eM ?_
   ·first | exact eN | refine eM ?_
  ·have hk2:sup.take k=sup:=List.take_of_length_le (by exact eV)
   rw [hk2] at hf
   have h1:readyF (nm,sup,fe) l=true:=hf
   exact ev_fin hc [.tmp 4] rfl (.inl rfl) (by simp) (by rw [h1];first | exact eR | refine eRM ?_)
def namesG (d:List DeclD):Nat→List DeclD→Int
 | _,[]=>0
 | k,x :: l=>if namedF x.1 false=false then 1 else if dfindF d x.1 < (k:Int) then 4 else namesG d (k + 1) l
def namesF (d:List DeclD):Int:=namesG d 0 d
theorem namesG_step (d l:List DeclD) {k:Nat} (h:k < l.length):namesG d k (l.drop k)=if namedF (l.getD k d0).1 false=false then 1 else if dfindF d (l.getD k d0).1 < (k:Int) then 4 else namesG d (k + 1) (l.drop (k + 1)):=by
 rw [List.drop_eq_getElem_cons h]
 have e:l.getD k d0=l[k]:=by simp [List.getD_eq_getElem?_getD,h]
 rw [e]
 rfl
def namesS:Spec:={ ins:=[T22],pre:=fun _=>True,out:=fun (l,_)=>[.p T79 (namesF l)] }
attribute [local go_sem] namesS
theorem names_ok:FnOk Tryz.prog 179 namesS:=by
 refine fn_ok Tryz.func179 (by kernel_rfl) rfl Tryz.ntmps179 (by decide) (by kernel_rfl) (tyTab_ok [(205,nameS),(206,dfindS)]) (fns_cons name_ok (fns_cons dfind_ok fns_nil)) ?_
 rintro w0 O0 ⟨l,u⟩ hc ⟨⟨hl,-⟩,-⟩ -
 simp only [maxN] at hl
 simp only [namesS,entEnv]
 repeat' (first | exact trivial | refine eS rfl ?_ | refine ev_out_inv ?_ | refine rX [0,2,3,7,16,25] hc ?_ ?_ | (refine rC (fun hcond=>?_) (fun hcond=>?_)<;>try (cases hcond;done)))
 refine ev_loop (ι:={k:Nat // k≤l.length∧namesG l k (l.drop k)=namesF l}) (fun k=>⟨[(0,.p T22 l),(3,.p (.int .i64) (k.1:Int))],[]⟩) (fun k=>l.length - k.1) ⟨0,Nat.zero_le _,rfl⟩ (ent_match [] rfl rfl ?_ ?_) (fun k=>?_)
 ·first | exact eN | refine eM ?_
 ·first | exact eN | refine eM ?_
 ·obtain ⟨k,hk,hf⟩:=k
  simp only
  repeat' (first | exact trivial | refine eS rfl ?_ | refine ev_out_inv ?_ | refine rX [0,2,3,7,16,25] hc ?_ ?_ | (refine rC (fun hcond=>?_) (fun hcond=>?_)<;>try (cases hcond;done)))
  ·exact hcond
  ·have hk2:k < l.length:=by exact eV
   rw [namesG_step l l hk2,if_pos hcond] at hf
   exact ev_fin hc [.tmp 2] rfl (.inl rfl) (by simp) (by rw [← hf];first | exact eR | refine eRM ?_)
  ·assumption
  ·rename_i hnm
   have hk2:k < l.length:=by exact eV
   rw [namesG_step l l hk2,if_neg (by rw [hnm];simp),if_pos hcond] at hf
   exact ev_fin hc [.tmp 2] rfl (.inl rfl) (by simp) (by rw [← hf];first | exact eR | refine eRM ?_)
  ·exact eV
  ·rename_i hnm
   have hk2:k < l.length:=by exact eV
   rw [namesG_step l l hk2,if_neg (by rw [hnm];simp),if_neg (Int.not_lt.2 hcond)] at hf
   refine ⟨⟨k + 1,by omega,hf⟩,by simp only;omega,ent_match [] rfl rfl ?_ ?_⟩
   ·first | exact eN | refine eM ?_
   ·first | exact eN | refine eM ?_
  ·have hk2:l.drop k=[]:=List.drop_eq_nil_of_le (by exact eV)
   rw [hk2] at hf
   exact ev_fin hc [.tmp 2] rfl (.inl rfl) (by simp) (by rw [← hf];first | exact eR | refine eRM ?_;rfl)
def supG (d:List DeclD) (l:List ByteArray):Nat→List ByteArray→Int
 | _,[]=>0
 | k,x :: r=>if dfindF d x < 0 then 5 else if amongF (l.take k) x=true then 4 else supG d l (k + 1) r
def supersG (d:List DeclD):List DeclD→Int
 | []=>0
 | x :: l=>if supG d x.2.1 0 x.2.1≠0 then supG d x.2.1 0 x.2.1 else supersG d l
def supersF (d:List DeclD):Int:=supersG d d
theorem supG_step (d:List DeclD) (l:List ByteArray) {k:Nat} (h:k < l.length):supG d l k (l.drop k)=if dfindF d (l.getD k ByteArray.empty) < 0 then 5 else if amongF (l.take k) (l.getD k ByteArray.empty)=true then 4 else supG d l (k + 1) (l.drop (k + 1)):=by
 rw [List.drop_eq_getElem_cons h]
 have e:l.getD k ByteArray.empty=l[k]:=by simp [List.getD_eq_getElem?_getD,h]
 rw [e]
 rfl
theorem supersG_step (d l:List DeclD) {k:Nat} (h:k < l.length):supersG d (l.drop k)=if supG d (l.getD k d0).2.1 0 (l.getD k d0).2.1≠0 then supG d (l.getD k d0).2.1 0 (l.getD k d0).2.1 else supersG d (l.drop (k + 1)):=by
 rw [List.drop_eq_getElem_cons h]
 have e:l.getD k d0=l[k]:=by simp [List.getD_eq_getElem?_getD,h]
 rw [e]
 rfl
def supersS:Spec:={ ins:=[T22],pre:=fun _=>True,out:=fun (l,_)=>[.p T79 (supersF l)] }
attribute [local go_sem] supersS
theorem supers_ok:FnOk Tryz.prog 180 supersS:=by
 refine fn_ok Tryz.func180 (by kernel_rfl) rfl Tryz.ntmps180 (by decide) (by kernel_rfl) (tyTab_ok [(183,amongS),(206,dfindS)]) (fns_cons among_ok (fns_cons dfind_ok fns_nil)) ?_
 rintro w0 O0 ⟨l,u⟩ hc ⟨⟨hl,hall⟩,-⟩ -
 simp only [maxN] at hl
 simp only [supersS,entEnv]
 repeat' (first | exact trivial | refine eS rfl ?_ | refine ev_out_inv ?_ | refine rX [0,2,3,4,5,9,20,29,37] hc ?_ ?_ | (refine rC (fun hcond=>?_) (fun hcond=>?_)<;>try (cases hcond;done)))
 refine ev_loop (ι:={i:Nat // i≤l.length∧supersG l (l.drop i)=supersF l}) (fun i=>⟨[(0,.p T22 l),(3,.p (.int .i64) (i.1:Int))],[]⟩) (fun i=>l.length - i.1) ⟨0,Nat.zero_le _,rfl⟩ (ent_match [] rfl rfl ?_ ?_) (fun i=>?_)
 ·first | exact eN | refine eM ?_
 ·first | exact eN | refine eM ?_
 ·obtain ⟨i,hi,hf⟩:=i
  simp only
  repeat' (first | exact trivial | refine eS rfl ?_ | refine ev_out_inv ?_ | refine rX [0,2,3,4,5,9,20,29,37] hc ?_ ?_ | (refine rC (fun hcond=>?_) (fun hcond=>?_)<;>try (cases hcond;done)))
  ·exact hcond
  ·have hi2:i < l.length:=by exact eV
   have hm:=hall _ (mem_of_take_succ l d0 hi2)
   have hml:(l.getD i d0).2.1.length≤maxN:=hm.2.1.1
   simp only [maxN] at hml
   rw [supersG_step l l hi2] at hf
   generalize (l.getD i d0).2.1=sup at *
   refine ev_loop (ι:={k:Nat // k≤sup.length∧supG l sup k (sup.drop k)=supG l sup 0 sup}) (fun k=>⟨[(0,.p T22 l),(3,.p (.int .i64) (i:Int)),(4,.p T151 sup),(5,.p (.int .i64) (k.1:Int))],[]⟩) (fun k=>sup.length - k.1) ⟨0,Nat.zero_le _,rfl⟩ (ent_match [] rfl rfl ?_ ?_) (fun k=>?_)
   ·first | exact eN | refine eM ?_
   ·first | exact eN | refine eM ?_
   ·obtain ⟨k,hk,hg⟩:=k
    simp only
    repeat' (first | exact trivial | refine eS rfl ?_ | refine ev_out_inv ?_ | refine rX [0,2,3,4,5,9,20,29,37] hc ?_ ?_ | (refine rC (fun hcond=>?_) (fun hcond=>?_)<;>try (cases hcond;done)))
    ·exact hcond
    ·have hk2:k < sup.length:=by exact eV
     rw [supG_step l sup hk2,if_pos hcond] at hg
     rw [← hg,if_pos (by decide)] at hf
     exact ev_fin hc [.tmp 2] rfl (.inl rfl) (by simp) (by rw [← hf];first | exact eR | refine eRM ?_)
    ·exact eV
    ·rename_i hge
     have hk2:k < sup.length:=by exact eV
     rw [supG_step l sup hk2,if_neg (Int.not_lt.2 hge),if_pos hcond] at hg
     rw [← hg,if_pos (by decide)] at hf
     exact ev_fin hc [.tmp 2] rfl (.inl rfl) (by simp) (by rw [← hf];first | exact eR | refine eRM ?_)
    ·exact eV
    ·rename_i hge
     have hk2:k < sup.length:=by exact eV
     rw [supG_step l sup hk2,if_neg (Int.not_lt.2 hge),if_neg (by rw [hcond];simp)] at hg
     refine ⟨⟨k + 1,by omega,hg⟩,by simp only;omega,ent_match [] rfl rfl ?_ ?_⟩
     ·first | exact eN | refine eM ?_
     ·first | exact eN | refine eM ?_
    ·exact eV
    ·have hk2:sup.drop k=[]:=List.drop_eq_nil_of_le (by exact eV)
     rw [hk2] at hg
     rw [← hg,if_neg (by simp [supG])] at hf
     refine ⟨⟨i + 1,by omega,hf⟩,by simp only;omega,ent_match [] rfl rfl ?_ ?_⟩
     ·first | exact eN | refine eM ?_
     ·first | exact eN | refine eM ?_
  ·have hk2:l.drop i=[]:=List.drop_eq_nil_of_le (by exact eV)
   rw [hk2] at hf
   exact ev_fin hc [.tmp 2] rfl (.inl rfl) (by simp) (by rw [← hf];first | exact eR | refine eRM ?_;rfl)
end
/- Functions of grammarlabref03: Names, placed. -/
section
attribute [local go_sem] dfindS readyS amongS putS
theorem fold_tk {α β:Type} (g:β→α→β) (l:List α) (d:α) (t:β) {i:Nat} (hi:i < l.length):(l.take (i + 1)).foldl g t=g ((l.take i).foldl g t) (l.getD i d):=by
 rw [take_snoc l d hi,List.foldl_append];rfl
theorem putF_len (l:List ByteArray) (s:ByteArray):(putF l s).length≤l.length + 1:=by
 unfold putF
 split
 ·omega
 ·have:=tw_le (fun x=>strLt x s) l
  have h2:atF l s≤l.length:=this
  simp only [List.length_append,List.length_take,List.length_drop,List.length_singleton]
  omega
def namesL (l:List DeclD):List ByteArray:=l.foldl (fun o x=>putF o x.1) []
theorem namesL_len (l:List DeclD) (k:Nat):(namesL (l.take k)).length≤k:=by
 have key:∀ (l:List DeclD) (o:List ByteArray),(l.foldl (fun o x=>putF o x.1) o).length≤o.length + l.length:=by
  intro l
  induction l with
  | nil=>intro o;simp
  | cons x l ih =>
   intro o
   have h1:=ih (putF o x.1)
   have h2:=putF_len o x.1
   simp only [List.foldl_cons,List.length_cons]
   omega
 have h1:=key (l.take k) []
 have h2:=List.length_take_le k l
 unfold namesL
 simp only [List.length_nil] at h1
 omega
def namesLS:Spec:={ ins:=[T22],pre:=fun (l,_)=>List.length l≤100000,out:=fun (l,_)=>[.p T151 (namesL l)] }
attribute [local go_sem] namesLS
theorem namesL_ok:FnOk Tryz.prog 134 namesLS:=by
 refine fn_ok Tryz.func134 (by kernel_rfl) rfl Tryz.ntmps134 (by decide) (by kernel_rfl) (tyTab_ok [(174,putS)]) (fns_cons put_ok fns_nil) ?_
 rintro w0 O0 ⟨l,u⟩ hc - hl
 have hl:l.length≤100000:=hl
 simp only [namesLS,entEnv]
 repeat' (first | exact trivial | refine eS rfl ?_ | refine ev_out_inv ?_ | refine rX [0,2,3,4,8] hc ?_ ?_ | (refine rC (fun hcond=>?_) (fun hcond=>?_)<;>try (cases hcond;done)))
 refine ev_loop (ι:={k:Nat // k≤l.length}) (fun k=>⟨[(0,.p T22 l),(3,.p T151 (namesL (l.take k.1))),(4,.p (.int .i64) (k.1:Int))],[]⟩) (fun k=>l.length - k.1) ⟨0,Nat.zero_le _⟩ (ent_match [] rfl rfl ?_ ?_) (fun k=>?_)
 ·first | exact eN | refine eM ?_
 ·first | exact eN | refine eM ?_
  rfl
 ·obtain ⟨k,hk⟩:=k
  have hn:=namesL_len l k
  have hs:=fun h:k < l.length=>fold_tk (fun (o:List ByteArray) (x:DeclD)=>putF o x.1) l d0 [] h
  simp only
  repeat' (first | exact trivial | refine eS rfl ?_ | refine ev_out_inv ?_ | refine rX [0,2,3,4,8] hc ?_ ?_ | (refine rC (fun hcond=>?_) (fun hcond=>?_)<;>try (cases hcond;done)))
  ·exact ⟨hcond,by omega⟩
  ·exact eV
  ·have hk2:k < l.length:=by exact eV
   have e:=hs hk2
   refine ⟨⟨k + 1,by omega⟩,by simp only;omega,ent_match [] rfl rfl ?_ ?_⟩
   ·first | exact eN | refine eM ?_
   ·simp only
    have e:namesL (l.take (k + 1))=putF (namesL (l.take k)) (l.getD k d0).1:=e
    rw [e]
    first | exact eN | refine eM ?_
  ·have hk2:l.take k=l:=List.take_of_length_le (by exact eV)
   rw [hk2]
   exact ev_fin hc [.tmp 2] rfl (.inl rfl) (by simp) (by first | exact eR | refine eRM ?_)
def pickS (out:List ByteArray) (s:Bool×ByteArray) (x:DeclD):Bool×ByteArray :=
 if (amongF out x.1 || !readyF x out)=true then s else (true,if (!s.1 || strLt x.1 s.2)=true then x.1 else s.2)
def pickF (d:List DeclD) (out:List ByteArray):Bool×ByteArray:=d.foldl (pickS out) (false,ByteArray.empty)
def placedG (d:List DeclD):Nat→List ByteArray→List ByteArray
 | 0,out=>out
 | n + 1,out=>if (pickF d out).1=true then placedG d n (out++[(pickF d out).2]) else out
def placedF (d:List DeclD):List ByteArray:=placedG d d.length []
def unplaced (d:List DeclD) (out:List ByteArray):Nat:=d.countP fun x=>!amongF out x.1
theorem strEq_refl (s:ByteArray):strEq s s=true:=by unfold strEq;simp
theorem amongF_app (out:List ByteArray) (s x:ByteArray):amongF (out++[s]) x=(amongF out x || strEq s x):=by
 unfold amongF
 simp [List.any_append]
theorem pick_spec (d:List DeclD) (out:List ByteArray) (h:(pickF d out).1=true):∃ x∈d,x.1=(pickF d out).2∧amongF out x.1=false:=by
 have key:∀ (l:List DeclD) (s:Bool×ByteArray),(∀ x∈l,x∈d)→(s.1=true→∃ x∈d,x.1=s.2∧amongF out x.1=false)→(l.foldl (pickS out) s).1=true →
   ∃ x∈d,x.1=(l.foldl (pickS out) s).2∧amongF out x.1=false:=by
  intro l
  induction l with
  | nil=>intro s _ hs h;exact hs h
  | cons y l ih =>
   intro s hl hs h
   rw [List.foldl_cons] at h ⊢
   refine ih _ (fun x hx=>hl x (by simp [hx])) (fun hp=>?_) h
   unfold pickS at hp ⊢
   split
   ·rename_i hc
    rw [if_pos hc] at hp
    exact hs hp
   ·rename_i hc
    simp only
    have hy:amongF out y.1=false:=by
     cases hh:amongF out y.1 with
     | false=>rfl
     | true=>rw [hh] at hc;simp at hc
    split
    ·exact ⟨y,hl y (by simp),rfl,hy⟩
    ·rename_i hc2
     have:s.1=true:=by
      cases hh:s.1 with
      | true=>rfl
      | false=>rw [hh] at hc2;simp at hc2
     exact hs this
 exact key d _ (fun _ h=>h) (fun h=>by cases h) h
theorem unplaced_lt {d:List DeclD} {out:List ByteArray} (h:(pickF d out).1=true):unplaced d (out++[(pickF d out).2]) < unplaced d out:=by
 obtain ⟨x,hx,h1,h2⟩:=pick_spec d out h
 generalize (pickF d out).2=s at *
 unfold unplaced
 have key:∀ l:List DeclD,(l.countP fun y=>!amongF (out++[s]) y.1)≤l.countP fun y=>!amongF out y.1:=by
  intro l
  refine List.countP_mono_left fun y _ hy=>?_
  rw [amongF_app] at hy
  cases hh:amongF out y.1 with
  | false=>rfl
  | true=>rw [hh] at hy;simp at hy
 obtain ⟨l1,l2,rfl⟩:=List.append_of_mem hx
 rw [List.countP_append,List.countP_append,List.countP_cons,List.countP_cons]
 have k1:=key l1
 have k2:=key l2
 have e1:amongF (out++[s]) x.1=true:=by rw [amongF_app,h1,strEq_refl,Bool.or_true]
 rw [e1,h2]
 simp only [Bool.not_true,Bool.not_false,if_true]
 simp only [Bool.false_eq_true,if_false]
 omega
def placedS:Spec:={ ins:=[T22],pre:=fun (l,_)=>List.length l≤100000,out:=fun (l,_)=>[.p T151 (placedF l)] }
theorem placed_ok:FnOk Tryz.prog 181 placedS:=by
 refine fn_ok Tryz.func181 (by kernel_rfl) rfl Tryz.ntmps181 (by decide) (by kernel_rfl) (tyTab_ok [(183,amongS),(207,readyS)]) (fns_cons among_ok (fns_cons ready_ok fns_nil)) ?_
 rintro w0 O0 ⟨d,u⟩ hc - hd
 have hd:d.length≤100000:=hd
 simp only [placedS,entEnv]
 repeat' (first | exact trivial | refine eS rfl ?_ | refine ev_out_inv ?_ | refine rX [0,2,3,4,5,6,7,11,29,40,46] hc ?_ ?_ | (refine rC (fun hcond=>?_) (fun hcond=>?_)<;>try (cases hcond;done)))
 refine ev_loop (ι:={x:Nat×List ByteArray×Bool // x.1 + x.2.1.length≤d.length∧(x.2.2=true→unplaced d x.2.1≤x.1∧placedG d x.1 x.2.1=placedF d)∧(x.2.2=false→x.2.1=placedF d)}) (fun x=>⟨[(0,.p T22 d),(3,.sr 50 T9 0 x.1.2.1.length),(4,.p .bool x.1.2.2)],[(50,.arr 9 T9 x.1.2.1)]⟩) (fun x=>(if x.1.2.2=true then x.1.1 + 1 else 0)) ⟨(d.length,[],true),by simp,fun _=>⟨List.countP_le_length,rfl⟩,fun h=>by cases h⟩ (ent_match [(50,.nil)] rfl rfl ?_ ?_) (fun x=>?_)
 ·first | exact eN | refine eM ?_
 ·first | exact eN | refine eM ?_
 ·obtain ⟨⟨n,out,more⟩,hlen,hm1,hm2⟩:=x
  simp only at hlen hm1 hm2
  simp only
  repeat' (first | exact trivial | refine eS rfl ?_ | refine ev_out_inv ?_ | refine rX [0,2,3,4,5,6,7,11,29,40,46] hc ?_ ?_ | (refine rC (fun hcond=>?_) (fun hcond=>?_)<;>try (cases hcond;done)))
  ·subst hcond
   obtain ⟨hu,hp⟩:=hm1 rfl
   have hz:({ data:=#[] }:ByteArray).size≤maxN:=by decide
   rw [if_pos hz]
   refine ev_loop (ι:={y:Nat×Bool×ByteArray // y.1≤d.length∧(d.take y.1).foldl (pickS out) (false,ByteArray.empty)=y.2}) (fun y=>⟨[(0,.p T22 d),(3,.sr 50 T9 0 out.length),(4,.p .bool y.1.2.1),(5,.p T9 y.1.2.2),(6,.p (.int .i64) (y.1.1:Int))],[(50,.arr 9 T9 out)]⟩) (fun y=>d.length - y.1.1) ⟨(0,false,ByteArray.empty),by simp,rfl⟩ (ent_match [(50,.nm 50)] rfl rfl ?_ ?_) (fun y=>?_)
   ·first | exact eN | refine eM ?_
   ·first | exact eN | refine eM ?_
    rfl
   ·obtain ⟨⟨k,mo,nx⟩,hk,hfold⟩:=y
    simp only at hk hfold
    have hstep:∀ h:k < d.length,(d.take (k + 1)).foldl (pickS out) (false,ByteArray.empty)=pickS out (mo,nx) (d.getD k d0):=fun h=>by
     rw [fold_tk (pickS out) d d0 _ h,hfold]
    simp only
    repeat' (first | exact trivial | refine eS rfl ?_ | refine ev_out_inv ?_ | refine rX [0,2,3,4,5,6,7,11,29,40,46] hc ?_ ?_ | (refine rC (fun hcond=>?_) (fun hcond=>?_)<;>try (cases hcond;done)))
    ·exact ⟨hcond,fun _=>hcond⟩
    ·exact eV
    ·have hk2:k < d.length:=by exact eV
     refine ⟨⟨(k + 1,mo,nx),by simp only;omega,?_⟩,by simp only;omega,ent_match [(50,.nm 50)] rfl rfl ?_ ?_⟩
     ·simp only
      rw [hstep hk2]
      unfold pickS
      rw [if_pos]
      rw [Bool.or_eq_true,Bool.not_eq_true']
      exact hcond
     ·first | exact eN | refine eM ?_
     ·first | exact eN | refine eM ?_
    ·exact fun _=>by assumption
    ·assumption
    ·exact eV
    ·rename_i hc2
     have hk2:k < d.length:=by exact eV
     refine ⟨⟨(k + 1,true,(d.getD k d0).1),by simp only;omega,?_⟩,by simp only;omega,ent_match [(50,.nm 50)] rfl rfl ?_ ?_⟩
     ·simp only
      rw [hstep hk2]
      unfold pickS
      rw [if_neg (by rw [hc2.1,hc2.2];simp),if_pos (by rw [Bool.or_eq_true,Bool.not_eq_true'];exact hcond)]
     ·first | exact eN | refine eM ?_
     ·first | exact eN | refine eM ?_
    ·exact eV
    ·rename_i hc2
     have hk2:k < d.length:=by exact eV
     refine ⟨⟨(k + 1,true,nx),by simp only;omega,?_⟩,by simp only;omega,ent_match [(50,.nm 50)] rfl rfl ?_ ?_⟩
     ·simp only
      rw [hstep hk2]
      unfold pickS
      rw [if_neg (by rw [hc2.1,hc2.2];simp),if_neg (by rw [Bool.or_eq_true,Bool.not_eq_true'];rintro (h | h)<;>simp_all)]
     ·first | exact eN | refine eM ?_
     ·first | exact eN | refine eM ?_
    ·simp only [maxN]
     dsimp only [Ty.den] at *
     omega
    ·subst hcond
     have hkd:d.take k=d:=List.take_of_length_le (by exact eV)
     rw [hkd] at hfold
     have hpk:pickF d out=(true,nx):=hfold
     have hlt:=unplaced_lt (d:=d) (out:=out) (by rw [hpk])
     rw [hpk] at hlt
     obtain ⟨n',rfl⟩:∃ n',n=n' + 1:=⟨n - 1,by omega⟩
     have hp2:placedG d n' (out++[nx])=placedF d:=by
      rw [← hp]
      show _=if (pickF d out).1=true then placedG d n' (out++[(pickF d out).2]) else out
      rw [hpk,if_pos rfl]
     have hlt:unplaced d (out++[nx]) < unplaced d out:=hlt
     have hun:unplaced d (out++[nx])≤n':=by omega
     refine ⟨⟨(n',out++[nx],true),by simp only [List.length_append,List.length_singleton];omega,fun _=>⟨hun,hp2⟩,fun h=>by cases h⟩,by simp,ent_match [(50,.nm 50)] rfl rfl ?_ ?_⟩
     ·first | exact eN | refine eM ?_
     ·first | exact eN | refine eM ?_
    ·subst hcond
     have hkd:d.take k=d:=List.take_of_length_le (by exact eV)
     rw [hkd] at hfold
     have hpk:pickF d out=(false,nx):=hfold
     have hp2:out=placedF d:=by
      rw [← hp]
      cases n with
      | zero=>rfl
      | succ n =>
       show _=if (pickF d out).1=true then placedG d n (out++[(pickF d out).2]) else out
       rw [hpk,if_neg (by simp)]
     refine ⟨⟨(n,out,false),hlen,(fun h=>by cases h),fun _=>hp2⟩,by simp,ent_match [(50,.nm 50)] rfl rfl ?_ ?_⟩
     ·first | exact eN | refine eM ?_
     ·first | exact eN | refine eM ?_
  ·subst hcond
   have hout:=hm2 rfl
   rw [hout]
   refine frzE [50] ?_
   exact ev_fin hc [.tmp 2] rfl (.inl rfl) (by simp) (by first | exact eR | refine eRM ?_)
end
/- Functions of grammarlabref03: Check. -/
section
attribute [local go_sem] sizesS namesS supersS placedS
def rootsN (d:List DeclD):Nat:=d.countP fun x=>x.2.1.length == 0
theorem rootsN_succ (d:List DeclD) {k:Nat} (h:k < d.length):rootsN (d.take (k + 1))=rootsN (d.take k) + if ((d.getD k d0).2.1.length == 0)=true then 1 else 0:=by
 unfold rootsN
 rw [take_snoc d d0 h,List.countP_append,List.countP_cons,List.countP_nil]
 omega
theorem rootsN_le (d:List DeclD):rootsN d≤d.length:=List.countP_le_length
def check3F (d:List DeclD):Int :=
 if sizesF d≠0 then sizesF d else if namesF d≠0 then namesF d else if supersF d≠0 then supersF d else if rootsN d≠1 then 1 else if (placedF d).length < d.length then 6 else 0
theorem sizesF_zero {d:List DeclD} (h:sizesF d=0):d.length≤256:=by
 unfold sizesF at h
 split at h
 ·cases h
 ·omega
def check3S:Spec:={ ins:=[T22],pre:=fun _=>True,out:=fun (l,_)=>[.p T79 (check3F l)] }
attribute [local go_sem] check3S
theorem check3_ok:FnOk Tryz.prog 133 check3S:=by
 refine fn_ok Tryz.func133 (by kernel_rfl) rfl Tryz.ntmps133 (by decide) (by kernel_rfl) (tyTab_ok [(178,sizesS),(179,namesS),(180,supersS),(181,placedS)]) (fns_cons sizes_ok (fns_cons names_ok (fns_cons supers_ok (fns_cons placed_ok fns_nil)))) ?_
 rintro w0 O0 ⟨d,u⟩ hc - -
 simp only [check3S,entEnv]
 repeat' (first | exact trivial | refine eS rfl ?_ | refine ev_out_inv ?_ | refine rX [0,2,3,4,5,6,7,11,16,21,26,35,39,45] hc ?_ ?_ | (refine rC (fun hcond=>?_) (fun hcond=>?_)<;>try (cases hcond;done)))
 ·have h1:check3F d=sizesF d:=by unfold check3F;rw [if_pos hcond]
  exact ev_fin hc [.tmp 2] rfl (.inl rfl) (by simp) (by rw [h1];first | exact eR | refine eRM ?_)
 ·rename_i hs
  have hs:sizesF d=0:=by simpa using hs
  have h1:check3F d=namesF d:=by unfold check3F;rw [if_neg (by rw [hs];simp),if_pos hcond]
  exact ev_fin hc [.tmp 2] rfl (.inl rfl) (by simp) (by rw [h1];first | exact eR | refine eRM ?_)
 ·rename_i hs hn
  have hs:sizesF d=0:=by simpa using hs
  have hn:namesF d=0:=by simpa using hn
  have h1:check3F d=supersF d:=by unfold check3F;rw [if_neg (by rw [hs];simp),if_neg (by rw [hn];simp),if_pos hcond]
  exact ev_fin hc [.tmp 2] rfl (.inl rfl) (by simp) (by rw [h1];first | exact eR | refine eRM ?_)
 ·rename_i hs hn
  have hs:sizesF d=0:=by simpa using hs
  have hn:namesF d=0:=by simpa using hn
  have hu:supersF d=0:=by simpa using hcond
  have hd:=sizesF_zero hs
  have h1:check3F d=if rootsN d≠1 then 1 else if (placedF d).length < d.length then 6 else 0:=by
   unfold check3F;rw [if_neg (by rw [hs];simp),if_neg (by rw [hn];simp),if_neg (by rw [hu];simp)]
  refine ev_loop (ι:={k:Nat // k≤d.length}) (fun k=>⟨[(0,.p T22 d),(6,.p (.int .i64) (rootsN (d.take k.1):Int)),(7,.p (.int .i64) (k.1:Int))],[]⟩) (fun k=>d.length - k.1) ⟨0,Nat.zero_le _⟩ (ent_match [] rfl rfl ?_ ?_) (fun k=>?_)
  ·first | exact eN | refine eM ?_
  ·first | exact eN | refine eM ?_
   rfl
  ·obtain ⟨k,hk⟩:=k
   have hr:=rootsN_le (d.take k)
   have hr2:=List.length_take_le k d
   have hsu:=fun h:k < d.length=>rootsN_succ d h
   simp only
   repeat' (first | exact trivial | refine eS rfl ?_ | refine ev_out_inv ?_ | refine rX [0,2,3,4,5,6,7,11,16,21,26,35,39,45] hc ?_ ?_ | (refine rC (fun hcond=>?_) (fun hcond=>?_)<;>try (cases hcond;done)))
   ·exact hcond
   ·exact eV
   ·exact eV
   ·have hk2:k < d.length:=by exact eV
    have e:=hsu hk2
    rw [if_pos (by rw [beq_iff_eq];exact Int.ofNat_eq_zero.1 hcond)] at e
    refine ⟨⟨k + 1,by omega⟩,by simp only;omega,ent_match [] rfl rfl ?_ ?_⟩
    ·first | exact eN | refine eM ?_
    ·simp only [e]
     first | exact eN | refine eM ?_
   ·exact eV
   ·have hk2:k < d.length:=by exact eV
    have e:=hsu hk2
    rw [if_neg (by rw [beq_iff_eq];exact fun h=>hcond (Int.ofNat_eq_zero.2 h))] at e
    refine ⟨⟨k + 1,by omega⟩,by simp only;omega,ent_match [] rfl rfl ?_ ?_⟩
    ·first | exact eN | refine eM ?_
    ·simp only [e]
     first | exact eN | refine eM ?_
   ·have hk2:d.take k=d:=List.take_of_length_le (by exact eV)
    rw [hk2] at hcond
    rw [if_pos (fun h=>hcond (by rw [h];rfl))] at h1
    exact ev_fin hc [.tmp 2] rfl (.inl rfl) (by simp) (by rw [h1];first | exact eR | refine eRM ?_)
   ·show d.length≤100000
    omega
   ·rename_i hro
    have hk2:d.take k=d:=List.take_of_length_le (by exact eV)
    rw [hk2] at hro
    have hro:(rootsN d:Int)=1:=by simpa using hro
    rw [if_neg (by omega),if_pos (Int.ofNat_lt.1 hcond)] at h1
    exact ev_fin hc [.tmp 2] rfl (.inl rfl) (by simp) (by rw [h1];first | exact eR | refine eRM ?_)
   ·rename_i hro
    have hk2:d.take k=d:=List.take_of_length_le (by exact eV)
    rw [hk2] at hro
    have hro:(rootsN d:Int)=1:=by simpa using hro
    rw [if_neg (by omega),if_neg (fun h=>absurd (Int.ofNat_le.1 hcond) (Nat.not_le.2 h))] at h1
    exact ev_fin hc [.tmp 2] rfl (.inl rfl) (by simp) (by rw [h1];first | exact eR | refine eRM ?_)
end
/- Functions of grammarlabref03: Above. -/
section
attribute [local go_sem] dfindS amongS putS
def addA (o:List ByteArray) (s:ByteArray):List ByteArray:=if amongF o s=true then o else o++[s]
def supsOf (d:List DeclD) (s:ByteArray):List ByteArray:=(d.getD (dfindF d s).toNat d0).2.1
def aboveG (d:List DeclD):Nat→Nat→List ByteArray→List ByteArray
 | 0,_,o=>o
 | n + 1,i,o=>if i < o.length then aboveG d n (i + 1) ((supsOf d (o.getD i ByteArray.empty)).foldl addA o) else o
def sortL (l:List ByteArray):List ByteArray:=l.foldl putF []
theorem sortL_len (l:List ByteArray):(sortL l).length≤l.length:=by
 have key:∀ (l o:List ByteArray),(l.foldl putF o).length≤o.length + l.length:=by
  intro l
  induction l with
  | nil=>intro o;simp
  | cons x l ih =>
   intro o
   have h1:=ih (putF o x)
   have h2:=putF_len o x
   simp only [List.foldl_cons,List.length_cons]
   omega
 have:=key l []
 simpa [sortL] using this
def aboveF (d:List DeclD) (s:ByteArray):List ByteArray:=if dfindF d s < 0 then [] else sortL (aboveG d d.length 0 [s])
def SupOk (d:List DeclD):Prop:=∀ x∈d,∀ s∈x.2.1,0≤dfindF d s
theorem dfindG_le (s:ByteArray):∀ (l:List DeclD) (k:Nat),dfindG s k l=-1∨((k:Int)≤dfindG s k l∧dfindG s k l < (k:Int) + l.length∧strEq (l.getD ((dfindG s k l).toNat - k) d0).1 s=true)
 | [],_=>.inl rfl
 | x :: l,k=>by
  simp only [dfindG]
  split
  ·rename_i h
   right
   refine ⟨by omega,by simp only [List.length_cons];omega,?_⟩
   have:((k:Int).toNat - k)=0:=by omega
   rw [this]
   exact h
  ·rcases dfindG_le s l (k + 1) with h | ⟨h1,h2,h3⟩
   ·exact .inl h
   ·right
    refine ⟨by omega,by simp only [List.length_cons];omega,?_⟩
    have:((dfindG s (k + 1) l).toNat - k)=((dfindG s (k + 1) l).toNat - (k + 1)) + 1:=by omega
    rw [this]
    exact h3
theorem dfindF_spec (d:List DeclD) (s:ByteArray):dfindF d s < 0∨(0≤dfindF d s∧dfindF d s < (d.length:Int)∧strEq (d.getD (dfindF d s).toNat d0).1 s=true):=by
 rcases dfindG_le s d 0 with h | ⟨h1,h2,h3⟩
 ·left;show dfindG s 0 d < 0;omega
 ·have h2:dfindF d s < ((0:Nat):Int) + d.length:=h2
  exact .inr ⟨h1,by omega,h3⟩
theorem strEq_iff {a b:ByteArray}:strEq a b=true↔a.toList=b.toList:=by unfold strEq;simp
theorem strEq_symm {a b:ByteArray} (h:strEq a b=true):strEq b a=true:=strEq_iff.2 (strEq_iff.1 h).symm
theorem strEq_trans {a b c:ByteArray} (h:strEq a b=true) (g:strEq b c=true):strEq a c=true:=strEq_iff.2 ((strEq_iff.1 h).trans (strEq_iff.1 g))
structure AOk (d:List DeclD) (o:List ByteArray):Prop where
 decl:∀ s∈o,0≤dfindF d s
 nd:o.Pairwise fun a b=>strEq a b=false
theorem pw_map_nodup (d:List DeclD):∀ {o:List ByteArray},AOk d o→(o.map fun s=>(dfindF d s).toNat).Nodup
 | [],_=>by simp
 | s :: o,h=>by
  rw [List.map_cons,List.nodup_cons]
  have hnd:=List.pairwise_cons.1 h.nd
  refine ⟨fun hm=>?_,pw_map_nodup d ⟨fun x hx=>h.decl x (by simp [hx]),hnd.2⟩⟩
  obtain ⟨x,hx,e⟩:=List.mem_map.1 hm
  have h1:=h.decl s (by simp)
  have h2:=h.decl x (by simp [hx])
  rcases dfindF_spec d s with g | ⟨_,_,g1⟩
  ·omega
  ·rcases dfindF_spec d x with g | ⟨_,_,g2⟩
   ·omega
   ·rw [e] at g2
    have:=hnd.1 x hx
    rw [strEq_trans (strEq_symm g1) g2] at this
    cases this
theorem AOk.len {d:List DeclD} {o:List ByteArray} (h:AOk d o):o.length≤d.length:=by
 have:=nodup_len d.length (o.map fun s=>(dfindF d s).toNat) (pw_map_nodup d h) (fun j hj=>by
  obtain ⟨s,hs,rfl⟩:=List.mem_map.1 hj
  have h1:=h.decl s hs
  rcases dfindF_spec d s with g | ⟨_,g,_⟩<;>omega)
 simpa using this
theorem amongF_false {o:List ByteArray} {s:ByteArray} (h:amongF o s=false):∀ x∈o,strEq x s=false:=fun x hx=>by
 cases hh:strEq x s with
 | false=>rfl
 | true=>exact absurd h (by rw [show amongF o s=true from List.any_eq_true.2 ⟨x,hx,hh⟩];simp)
theorem addA_ok {d:List DeclD} {o:List ByteArray} (h:AOk d o) {s:ByteArray} (hs:0≤dfindF d s):AOk d (addA o s):=by
 unfold addA
 split
 ·exact h
 ·rename_i hc
  have hc:amongF o s=false:=by simpa using hc
  refine ⟨fun x hx=>?_,?_⟩
  ·rcases List.mem_append.1 hx with hx | hx
   ·exact h.decl x hx
   ·have:x=s:=by simpa using hx
    rw [this];exact hs
  ·rw [List.pairwise_append]
   refine ⟨h.nd,by simp,fun a ha b hb=>?_⟩
   have:b=s:=by simpa using hb
   rw [this]
   exact amongF_false hc a ha
theorem addAs_ok {d:List DeclD}:∀ {l o:List ByteArray},(∀ s∈l,0≤dfindF d s)→AOk d o→AOk d (l.foldl addA o)∧o.length≤(l.foldl addA o).length
 | [],o,_,h=>⟨h,Nat.le_refl _⟩
 | s :: l,o,hl,h=>by
  obtain ⟨g1,g2⟩:=addAs_ok (l:=l) (fun x hx=>hl x (by simp [hx])) (addA_ok h (hl s (by simp)))
  refine ⟨g1,Nat.le_trans ?_ g2⟩
  unfold addA
  split<;>simp
theorem supsOf_decl {d:List DeclD} (hd:SupOk d) (s:ByteArray):∀ x∈supsOf d s,0≤dfindF d x:=by
 intro x hx
 unfold supsOf at hx
 by_cases h:(dfindF d s).toNat < d.length
 ·exact hd _ (mem_of_take_succ d d0 h) x hx
 ·rw [List.getD_eq_getElem?_getD,List.getElem?_eq_none (by omega)] at hx
  cases hx
def aboveS:Spec:={ ins:=[T22,T9],pre:=fun (d,_,_)=>SupOk d∧List.length d≤256,out:=fun (d,s,_)=>[.p T151 (aboveF d s)] }
theorem above_ok:FnOk Tryz.prog 209 aboveS:=by
 refine fn_ok Tryz.func209 (by kernel_rfl) rfl Tryz.ntmps209 (by decide) (by kernel_rfl) (tyTab_ok [(206,dfindS),(183,amongS),(174,putS)]) (fns_cons dfind_ok (fns_cons among_ok (fns_cons put_ok fns_nil))) ?_
 rintro w0 O0 ⟨d,s,u⟩ hc ⟨⟨hdl,hall⟩,-⟩ ⟨hsup,hd⟩
 have hd:d.length≤256:=hd
 simp only [aboveS,entEnv]
 repeat' (first | exact trivial | refine eS rfl ?_ | refine ev_out_inv ?_ | refine rX [0,1,4,5,6,7,8,9,10,14,20,36,45,56] hc ?_ ?_ | (refine rC (fun hcond=>?_) (fun hcond=>?_)<;>try (cases hcond;done)))
 ·have h1:aboveF d s=[]:=by unfold aboveF;rw [if_pos hcond]
  exact ev_fin hc [.tmp 4] rfl (.inl rfl) (by simp) (by rw [h1];first | exact eR | refine eRM ?_)
 ·have h1:aboveF d s=sortL (aboveG d d.length 0 [s]):=by unfold aboveF;rw [if_neg (Int.not_lt.2 hcond)]
  have hA0:AOk d [s]:=⟨fun x hx=>by
   have:x=s:=by simpa using hx
   rw [this];exact hcond,by simp⟩
  refine ev_loop (ι:={x:Nat×List ByteArray // x.1≤x.2.length∧AOk d x.2∧aboveG d (d.length - x.1) x.1 x.2=aboveG d d.length 0 [s]}) (fun x=>⟨[(0,.p T22 d),(1,.p T9 s),(5,.sr 16 T9 0 x.1.2.length),(6,.p (.int .i64) (x.1.1:Int))],[(16,.arr 9 T9 x.1.2)]⟩) (fun x=>d.length - x.1.1) ⟨(0,[s]),by simp,hA0,rfl⟩ (ent_match [(16,.nm 16)] rfl rfl ?_ ?_) (fun x=>?_)
  ·first | exact eN | refine eM ?_
  ·first | exact eN | refine eM ?_
  ·obtain ⟨⟨i,o⟩,hi,hA,hg⟩:=x
   simp only at hi hA hg
   have hol:=hA.len
   simp only
   repeat' (first | exact trivial | refine eS rfl ?_ | refine ev_out_inv ?_ | refine rX [0,1,4,5,6,7,8,9,10,14,20,36,45,56] hc ?_ ?_ | (refine rC (fun hcond=>?_) (fun hcond=>?_)<;>try (cases hcond;done)))
   ·have hi2:i < o.length:=by exact eV
    have hde:=hA.decl _ (mem_of_take_succ o ByteArray.empty hi2)
    refine ⟨hcond,hde,?_⟩
    rcases dfindF_spec d (o.getD i ByteArray.empty) with g | ⟨_,g,_⟩
    ·omega
    ·exact g
   ·have hi2:i < o.length:=by exact eV
    have hde:=hA.decl _ (mem_of_take_succ o ByteArray.empty hi2)
    have hsd:=supsOf_decl hsup (o.getD i ByteArray.empty)
    have hnext:aboveG d (d.length - (i + 1)) (i + 1) ((supsOf d (o.getD i ByteArray.empty)).foldl addA o)=aboveG d d.length 0 [s]:=by
     rw [← hg]
     obtain ⟨m,hm⟩:∃ m,d.length - i=m + 1:=⟨d.length - i - 1,by omega⟩
     have hm2:d.length - (i + 1)=m:=by omega
     rw [hm,hm2]
     show _=if i < o.length then aboveG d m (i + 1) ((supsOf d (o.getD i ByteArray.empty)).foldl addA o) else o
     rw [if_pos hi2]
    have hsl:(supsOf d (o.getD i ByteArray.empty)).length≤maxN:=by
     rcases dfindF_spec d (o.getD i ByteArray.empty) with g | ⟨_,g,_⟩
     ·omega
     ·exact (hall _ (mem_of_take_succ d d0 (k:=(dfindF d (o.getD i ByteArray.empty)).toNat) (by omega))).2.1.1
    have hsu:(List.getD d (dfindF d (o.getD i ByteArray.empty)).toNat (ByteArray.empty,[],[])).2.1=supsOf d (o.getD i ByteArray.empty):=rfl
    rw [hsu]
    generalize supsOf d (o.getD i ByteArray.empty)=sup at *
    simp only [maxN] at hsl
    refine ev_loop (ι:={k:Nat // k≤sup.length}) (fun k=>⟨[(0,.p T22 d),(1,.p T9 s),(5,.sr 16 T9 0 ((sup.take k.1).foldl addA o).length),(6,.p (.int .i64) (i:Int)),(7,.p T151 sup),(8,.p (.int .i64) (k.1:Int))],[(16,.arr 9 T9 ((sup.take k.1).foldl addA o))]⟩) (fun k=>sup.length - k.1) ⟨0,Nat.zero_le _⟩ (ent_match [(16,.nm 16)] rfl rfl ?_ ?_) (fun k=>?_)
    ·first | exact eN | refine eM ?_
     rfl
    ·first | exact eN | refine eM ?_
     rfl
    ·obtain ⟨k,hk⟩:=k
     have hok:=addAs_ok (l:=sup.take k) (o:=o) (fun x hx=>hsd x (List.mem_of_mem_take hx)) hA
     have hok2:=hok.1.len
     have hstep:=fun h:k < sup.length=>fold_tk addA sup ByteArray.empty o h
     simp only
     generalize ho2:(sup.take k).foldl addA o=o2 at *
     repeat' (first | exact trivial | refine eS rfl ?_ | refine ev_out_inv ?_ | refine rX [0,1,4,5,6,7,8,9,10,14,20,36,45,56] hc ?_ ?_ | (refine rC (fun hcond=>?_) (fun hcond=>?_)<;>try (cases hcond;done)))
     ·exact hcond
     ·refine ⟨by exact eV,?_⟩
      simp only [maxN]
      dsimp only [Ty.den] at *
      omega
     ·exact eV
     ·have hk2:k < sup.length:=by exact eV
      have e:=hstep hk2
      have e2:addA o2 (sup.getD k ByteArray.empty)=o2++[sup.getD k ByteArray.empty]:=by unfold addA;rw [if_neg (by rw [hcond];simp)]
      rw [e2] at e
      refine ⟨⟨k + 1,by omega⟩,by simp only;omega,ent_match [(16,.nm 16)] rfl rfl ?_ ?_⟩
      ·simp only [e]
       first | exact eN | refine eM ?_
      ·simp only [e]
       first | exact eN | refine eM ?_
     ·exact eV
     ·have hk2:k < sup.length:=by exact eV
      have e:=hstep hk2
      have e2:addA o2 (sup.getD k ByteArray.empty)=o2:=by unfold addA;rw [if_pos hcond]
      rw [e2] at e
      refine ⟨⟨k + 1,by omega⟩,by simp only;omega,ent_match [(16,.nm 16)] rfl rfl ?_ ?_⟩
      ·simp only [e]
       first | exact eN | refine eM ?_
      ·simp only [e]
       first | exact eN | refine eM ?_
     ·exact eV
     ·have hk2:sup.take k=sup:=List.take_of_length_le (by exact eV)
      rw [hk2] at ho2
      rw [ho2] at hnext
      have hok1:=hok.1
      have hokl:=hok.2
      refine ⟨⟨(i + 1,o2),by simp only;omega,hok1,hnext⟩,by simp only;omega,ent_match [(16,.nm 16)] rfl rfl ?_ ?_⟩
      ·first | exact eN | refine eM ?_
      ·first | exact eN | refine eM ?_
   ·have hoe:o=aboveG d d.length 0 [s]:=by
     rw [← hg]
     cases hm:d.length - i with
     | zero=>rfl
     | succ m =>
      show _=if i < o.length then _ else o
      rw [if_neg (by exact eV)]
    rw [← hoe] at h1
    refine ev_loop (ι:={j:Nat // j≤o.length}) (fun j=>⟨[(0,.p T22 d),(5,.sr 16 T9 0 o.length),(9,.p T151 ((o.take j.1).foldl putF [])),(10,.p (.int .i64) (j.1:Int))],[(16,.arr 9 T9 o)]⟩) (fun j=>o.length - j.1) ⟨0,Nat.zero_le _⟩ (ent_match [(16,.nm 16)] rfl rfl ?_ ?_) (fun j=>?_)
    ·first | exact eN | refine eM ?_
    ·first | exact eN | refine eM ?_
     rfl
    ·obtain ⟨j,hj⟩:=j
     have hsj:=fun h:j < o.length=>fold_tk putF o ByteArray.empty [] h
     simp only
     repeat' (first | exact trivial | refine eS rfl ?_ | refine ev_out_inv ?_ | refine rX [0,1,4,5,6,7,8,9,10,14,20,36,45,56] hc ?_ ?_ | (refine rC (fun hcond=>?_) (fun hcond=>?_)<;>try (cases hcond;done)))
     ·refine ⟨hcond,?_⟩
      have:=sortL_len (o.take j)
      have h3:=List.length_take_le j o
      unfold sortL at this
      dsimp only [Ty.den] at *
      omega
     ·exact eV
     ·have hj2:j < o.length:=by exact eV
      have e:=hsj hj2
      refine ⟨⟨j + 1,by omega⟩,by simp only;omega,ent_match [(16,.nm 16)] rfl rfl ?_ ?_⟩
      ·first | exact eN | refine eM ?_
      ·simp only [e]
       first | exact eN | refine eM ?_
     ·have hj2:o.take j=o:=List.take_of_length_le (by exact eV)
      rw [hj2]
      exact ev_fin hc [.tmp 4] rfl (.inl rfl) (by simp) (by rw [h1];unfold sortL;first | exact eR | refine eRM ?_)
end
/- Functions of grammarlabref03: Below. -/
section
attribute [local go_sem] dfindS amongS putS
def addB (s:ByteArray) (o:List ByteArray) (x:DeclD):List ByteArray:=if (amongF x.2.1 s && !amongF o x.1)=true then o++[x.1] else o
def belowG (d:List DeclD):Nat→Nat→List ByteArray→List ByteArray
 | 0,_,o=>o
 | n + 1,i,o=>if i < o.length then belowG d n (i + 1) (d.foldl (addB (o.getD i ByteArray.empty)) o) else o
def belowF (d:List DeclD) (s:ByteArray):List ByteArray:=if dfindF d s < 0 then [] else sortL (belowG d d.length 0 [s])
theorem dfindG_mem (s:ByteArray):∀ (l:List DeclD) (k:Nat) (x:DeclD),x∈l→strEq x.1 s=true→0≤dfindG s k l
 | y :: l,k,x,hx,h=>by
  simp only [dfindG]
  split
  ·omega
  ·rename_i hc
   rcases List.mem_cons.1 hx with rfl | hx
   ·exact absurd h hc
   ·exact dfindG_mem s l (k + 1) x hx h
theorem dfind_self {d:List DeclD} {x:DeclD} (hx:x∈d):0≤dfindF d x.1:=dfindG_mem x.1 d 0 x hx (strEq_refl _)
theorem addB_ok {d:List DeclD} {o:List ByteArray} (h:AOk d o) (s:ByteArray) {x:DeclD} (hx:x∈d):AOk d (addB s o x):=by
 unfold addB
 split
 ·rename_i hc
  rw [Bool.and_eq_true,Bool.not_eq_true'] at hc
  have:=addA_ok h (dfind_self hx)
  unfold addA at this
  rwa [if_neg (by rw [hc.2];simp)] at this
 ·exact h
theorem addBs_ok {d:List DeclD} (s:ByteArray):∀ {l:List DeclD} {o:List ByteArray},(∀ x∈l,x∈d)→AOk d o→AOk d (l.foldl (addB s) o)∧o.length≤(l.foldl (addB s) o).length
 | [],o,_,h=>⟨h,Nat.le_refl _⟩
 | x :: l,o,hl,h=>by
  obtain ⟨g1,g2⟩:=addBs_ok s (l:=l) (fun y hy=>hl y (by simp [hy])) (addB_ok h s (hl x (by simp)))
  refine ⟨g1,Nat.le_trans ?_ g2⟩
  unfold addB
  split<;>simp
theorem addBs_get (s:ByteArray) {i:Nat}:∀ {l:List DeclD} {o:List ByteArray},i < o.length→(l.foldl (addB s) o).getD i ByteArray.empty=o.getD i ByteArray.empty
 | [],_,_=>rfl
 | x :: l,o,h=>by
  have h2:i < (addB s o x).length∧(addB s o x).getD i ByteArray.empty=o.getD i ByteArray.empty:=by
   unfold addB
   split
   ·refine ⟨by rw [List.length_append];omega,?_⟩
    simp only [List.getD_eq_getElem?_getD]
    rw [List.getElem?_append_left h]
   ·exact ⟨h,rfl⟩
  rw [List.foldl_cons,addBs_get s h2.1,h2.2]
def belowS:Spec:={ ins:=[T22,T9],pre:=fun (d,_,_)=>List.length d≤256,out:=fun (d,s,_)=>[.p T151 (belowF d s)] }
attribute [local go_sem] belowS
theorem below_ok:FnOk Tryz.prog 182 belowS:=by
 refine fn_ok Tryz.func182 (by kernel_rfl) rfl Tryz.ntmps182 (by decide) (by kernel_rfl) (tyTab_ok [(206,dfindS),(183,amongS),(174,putS)]) (fns_cons dfind_ok (fns_cons among_ok (fns_cons put_ok fns_nil))) ?_
 rintro w0 O0 ⟨d,s,u⟩ hc - hd
 have hd:d.length≤256:=hd
 simp only [belowS,entEnv]
 repeat' (first | exact trivial | refine eS rfl ?_ | refine ev_out_inv ?_ | refine rX [0,1,4,5,6,7,8,9,13,19,25,47,59] hc ?_ ?_ | (refine rC (fun hcond=>?_) (fun hcond=>?_)<;>try (cases hcond;done)))
 ·have h1:belowF d s=[]:=by unfold belowF;rw [if_pos hcond]
  exact ev_fin hc [.tmp 4] rfl (.inl rfl) (by simp) (by rw [h1];first | exact eR | refine eRM ?_)
 ·have h1:belowF d s=sortL (belowG d d.length 0 [s]):=by unfold belowF;rw [if_neg (Int.not_lt.2 hcond)]
  have hA0:AOk d [s]:=⟨fun x hx=>by
   have:x=s:=by simpa using hx
   rw [this];exact hcond,by simp⟩
  refine ev_loop (ι:={x:Nat×List ByteArray // x.1≤x.2.length∧AOk d x.2∧belowG d (d.length - x.1) x.1 x.2=belowG d d.length 0 [s]}) (fun x=>⟨[(0,.p T22 d),(5,.sr 15 T9 0 x.1.2.length),(6,.p (.int .i64) (x.1.1:Int))],[(15,.arr 9 T9 x.1.2)]⟩) (fun x=>d.length - x.1.1) ⟨(0,[s]),by simp,hA0,rfl⟩ (ent_match [(15,.nm 15)] rfl rfl ?_ ?_) (fun x=>?_)
  ·first | exact eN | refine eM ?_
  ·first | exact eN | refine eM ?_
  ·obtain ⟨⟨i,o⟩,hi,hA,hg⟩:=x
   simp only at hi hA hg
   have hol:=hA.len
   simp only
   repeat' (first | exact trivial | refine eS rfl ?_ | refine ev_out_inv ?_ | refine rX [0,1,4,5,6,7,8,9,13,19,25,47,59] hc ?_ ?_ | (refine rC (fun hcond=>?_) (fun hcond=>?_)<;>try (cases hcond;done)))
   ·have hi2:i < o.length:=by exact eV
    have hnext:belowG d (d.length - (i + 1)) (i + 1) (d.foldl (addB (o.getD i ByteArray.empty)) o)=belowG d d.length 0 [s]:=by
     rw [← hg]
     obtain ⟨m,hm⟩:∃ m,d.length - i=m + 1:=⟨d.length - i - 1,by omega⟩
     have hm2:d.length - (i + 1)=m:=by omega
     rw [hm,hm2]
     show _=if i < o.length then belowG d m (i + 1) (d.foldl (addB (o.getD i ByteArray.empty)) o) else o
     rw [if_pos hi2]
    refine ev_loop (ι:={k:Nat // k≤d.length}) (fun k=>⟨[(0,.p T22 d),(5,.sr 15 T9 0 ((d.take k.1).foldl (addB (o.getD i ByteArray.empty)) o).length),(6,.p (.int .i64) (i:Int)),(7,.p (.int .i64) (k.1:Int))],[(15,.arr 9 T9 ((d.take k.1).foldl (addB (o.getD i ByteArray.empty)) o))]⟩) (fun k=>d.length - k.1) ⟨0,Nat.zero_le _⟩ (ent_match [(15,.nm 15)] rfl rfl ?_ ?_) (fun k=>?_)
    ·first | exact eN | refine eM ?_
     rfl
    ·first | exact eN | refine eM ?_
     rfl
    ·obtain ⟨k,hk⟩:=k
     have hok:=addBs_ok (o.getD i ByteArray.empty) (l:=d.take k) (o:=o) (fun x hx=>List.mem_of_mem_take hx) hA
     have hok2:=hok.1.len
     have hstep:=fun h:k < d.length=>fold_tk (addB (o.getD i ByteArray.empty)) d d0 o h
     have hpre:((d.take k).foldl (addB (o.getD i ByteArray.empty)) o).getD i ByteArray.empty=o.getD i ByteArray.empty:=addBs_get _ hi2
     simp only
     generalize ho2:(d.take k).foldl (addB (o.getD i ByteArray.empty)) o=o2 at *
     repeat' (first | exact trivial | refine eS rfl ?_ | refine ev_out_inv ?_ | refine rX [0,1,4,5,6,7,8,9,13,19,25,47,59] hc ?_ ?_ | (refine rC (fun hcond=>?_) (fun hcond=>?_)<;>try (cases hcond;done)))
     ·have hl:=hok.2
      refine ⟨hcond,?_,fun _=>hcond⟩
      dsimp only [Ty.den] at *
      omega
     ·refine ⟨by assumption,?_⟩
      simp only [maxN]
      dsimp only [Ty.den] at *
      omega
     ·exact eV
     ·have hk2:k < d.length:=by exact eV
      have e:=hstep hk2
      rw [hpre] at hcond
      have e2:addB (o.getD i ByteArray.empty) o2 (d.getD k d0)=o2++[(d.getD k d0).1]:=by
       unfold addB;rw [if_pos (by rw [Bool.and_eq_true,Bool.not_eq_true'];exact hcond)]
      rw [e2] at e
      refine ⟨⟨k + 1,by omega⟩,by simp only;omega,ent_match [(15,.nm 15)] rfl rfl ?_ ?_⟩
      ·simp only [e]
       first | exact eN | refine eM ?_
      ·simp only [e]
       first | exact eN | refine eM ?_
     ·exact eV
     ·have hk2:k < d.length:=by exact eV
      have e:=hstep hk2
      rw [hpre] at hcond
      have e2:addB (o.getD i ByteArray.empty) o2 (d.getD k d0)=o2:=by
       unfold addB
       rw [if_neg]
       rw [Bool.and_eq_true,Bool.not_eq_true']
       rintro ⟨h1,h2⟩
       rw [hcond h1] at h2
       cases h2
      rw [e2] at e
      refine ⟨⟨k + 1,by omega⟩,by simp only;omega,ent_match [(15,.nm 15)] rfl rfl ?_ ?_⟩
      ·simp only [e]
       first | exact eN | refine eM ?_
      ·simp only [e]
       first | exact eN | refine eM ?_
     ·exact eV
     ·have hk2:d.take k=d:=List.take_of_length_le (by exact eV)
      rw [hk2] at ho2
      rw [ho2] at hnext
      have hok1:=hok.1
      have hokl:=hok.2
      refine ⟨⟨(i + 1,o2),by simp only;omega,hok1,hnext⟩,by simp only;omega,ent_match [(15,.nm 15)] rfl rfl ?_ ?_⟩
      ·first | exact eN | refine eM ?_
      ·first | exact eN | refine eM ?_
   ·have hoe:o=belowG d d.length 0 [s]:=by
     rw [← hg]
     cases hm:d.length - i with
     | zero=>rfl
     | succ m =>
      show _=if i < o.length then _ else o
      rw [if_neg (by exact eV)]
    rw [← hoe] at h1
    refine ev_loop (ι:={j:Nat // j≤o.length}) (fun j=>⟨[(0,.p T22 d),(5,.sr 15 T9 0 o.length),(8,.p T151 ((o.take j.1).foldl putF [])),(9,.p (.int .i64) (j.1:Int))],[(15,.arr 9 T9 o)]⟩) (fun j=>o.length - j.1) ⟨0,Nat.zero_le _⟩ (ent_match [(15,.nm 15)] rfl rfl ?_ ?_) (fun j=>?_)
    ·first | exact eN | refine eM ?_
    ·first | exact eN | refine eM ?_
     rfl
    ·obtain ⟨j,hj⟩:=j
     have hsj:=fun h:j < o.length=>fold_tk putF o ByteArray.empty [] h
     simp only
     repeat' (first | exact trivial | refine eS rfl ?_ | refine ev_out_inv ?_ | refine rX [0,1,4,5,6,7,8,9,13,19,25,47,59] hc ?_ ?_ | (refine rC (fun hcond=>?_) (fun hcond=>?_)<;>try (cases hcond;done)))
     ·refine ⟨hcond,?_⟩
      have:=sortL_len (o.take j)
      have h3:=List.length_take_le j o
      unfold sortL at this
      dsimp only [Ty.den] at *
      omega
     ·exact eV
     ·have hj2:j < o.length:=by exact eV
      have e:=hsj hj2
      refine ⟨⟨j + 1,by omega⟩,by simp only;omega,ent_match [(15,.nm 15)] rfl rfl ?_ ?_⟩
      ·first | exact eN | refine eM ?_
      ·simp only [e]
       first | exact eN | refine eM ?_
     ·have hj2:o.take j=o:=List.take_of_length_le (by exact eV)
      rw [hj2]
      exact ev_fin hc [.tmp 4] rfl (.inl rfl) (by simp) (by rw [h1];unfold sortL;first | exact eR | refine eRM ?_)
end
/- Functions of grammarlabref03: declared, Maximal. -/
section
attribute [local go_sem] dfindS putS aboveS amongS
def declA (d:List DeclD) (o:List ByteArray) (x:ByteArray):List ByteArray:=if 0≤dfindF d x then putF o x else o
def declaredF (d:List DeclD) (l:List ByteArray):List ByteArray:=l.foldl (declA d) []
theorem declaredF_len (d:List DeclD) (l:List ByteArray):(declaredF d l).length≤l.length:=by
 have key:∀ (l o:List ByteArray),(l.foldl (declA d) o).length≤o.length + l.length:=by
  intro l
  induction l with
  | nil=>intro o;simp
  | cons x l ih =>
   intro o
   have h1:=ih (declA d o x)
   have h2:(declA d o x).length≤o.length + 1:=by
    unfold declA
    split
    ·exact putF_len o x
    ·omega
   simp only [List.foldl_cons,List.length_cons]
   omega
 have:=key l []
 simpa [declaredF] using this
def declaredS:Spec:={ ins:=[T22,T151],pre:=fun (_,l,_)=>List.length l≤100000,out:=fun (d,l,_)=>[.p T151 (declaredF d l)] }
attribute [local go_sem] declaredS
theorem declared_ok:FnOk Tryz.prog 208 declaredS:=by
 refine fn_ok Tryz.func208 (by kernel_rfl) rfl Tryz.ntmps208 (by decide) (by kernel_rfl) (tyTab_ok [(206,dfindS),(174,putS)]) (fns_cons dfind_ok (fns_cons put_ok fns_nil)) ?_
 rintro w0 O0 ⟨d,l,u⟩ hc - hl
 have hl:l.length≤100000:=hl
 simp only [declaredS,entEnv]
 repeat' (first | exact trivial | refine eS rfl ?_ | refine ev_out_inv ?_ | refine rX [0,1,4,5,6,10,19] hc ?_ ?_ | (refine rC (fun hcond=>?_) (fun hcond=>?_)<;>try (cases hcond;done)))
 refine ev_loop (ι:={k:Nat // k≤l.length}) (fun k=>⟨[(0,.p T22 d),(1,.p T151 l),(5,.p T151 (declaredF d (l.take k.1))),(6,.p (.int .i64) (k.1:Int))],[]⟩) (fun k=>l.length - k.1) ⟨0,Nat.zero_le _⟩ (ent_match [] rfl rfl ?_ ?_) (fun k=>?_)
 ·first | exact eN | refine eM ?_
 ·first | exact eN | refine eM ?_
  rfl
 ·obtain ⟨k,hk⟩:=k
  have hn:=declaredF_len d (l.take k)
  have hn2:=List.length_take_le k l
  have hs:=fun h:k < l.length=>fold_tk (declA d) l ByteArray.empty [] h
  simp only
  repeat' (first | exact trivial | refine eS rfl ?_ | refine ev_out_inv ?_ | refine rX [0,1,4,5,6,10,19] hc ?_ ?_ | (refine rC (fun hcond=>?_) (fun hcond=>?_)<;>try (cases hcond;done)))
  ·exact hcond
  ·exact ⟨by assumption,by omega⟩
  ·exact eV
  ·have hk2:k < l.length:=by exact eV
   have e:declaredF d (l.take (k + 1))=declA d (declaredF d (l.take k)) (l.getD k ByteArray.empty):=hs hk2
   unfold declA at e
   rw [if_pos hcond] at e
   refine ⟨⟨k + 1,by omega⟩,by simp only;omega,ent_match [] rfl rfl ?_ ?_⟩
   ·first | exact eN | refine eM ?_
   ·simp only [e]
    first | exact eN | refine eM ?_
  ·exact eV
  ·have hk2:k < l.length:=by exact eV
   have e:declaredF d (l.take (k + 1))=declA d (declaredF d (l.take k)) (l.getD k ByteArray.empty):=hs hk2
   unfold declA at e
   rw [if_neg (Int.not_le.2 hcond)] at e
   refine ⟨⟨k + 1,by omega⟩,by simp only;omega,ent_match [] rfl rfl ?_ ?_⟩
   ·first | exact eN | refine eM ?_
   ·simp only [e]
    first | exact eN | refine eM ?_
  ·have hk2:l.take k=l:=List.take_of_length_le (by exact eV)
   rw [hk2]
   exact ev_fin hc [.tmp 4] rfl (.inl rfl) (by simp) (by first | exact eR | refine eRM ?_)
def freeF (d:List DeclD) (all:List ByteArray) (i:Nat) (k:Nat):Bool:=(k:Int) == (i:Int) || !amongF (aboveF d (all.getD i ByteArray.empty)) (all.getD k ByteArray.empty)
def freeA (d:List DeclD) (all:List ByteArray) (i n:Nat):Bool:=(List.range n).all (freeF d all i)
def maxG (d:List DeclD) (all:List ByteArray) (n:Nat):List ByteArray:=((List.range n).filter fun i=>freeA d all i all.length).map fun i=>all.getD i ByteArray.empty
def maximalF (d:List DeclD) (l:List ByteArray):List ByteArray:=maxG d (declaredF d l) (declaredF d l).length
theorem maxG_succ (d:List DeclD) (all:List ByteArray) (n:Nat):maxG d all (n + 1)=maxG d all n++if freeA d all n all.length=true then [all.getD n ByteArray.empty] else []:=by
 unfold maxG
 rw [List.range_succ,List.filter_append,List.map_append]
 congr 1
 rw [List.filter_cons,List.filter_nil]
 split<;>rfl
theorem maxG_len (d:List DeclD) (all:List ByteArray) (n:Nat):(maxG d all n).length≤n:=by
 unfold maxG
 rw [List.length_map]
 exact Nat.le_trans (List.length_filter_le _ _) (by simp)
theorem freeA_succ (d:List DeclD) (all:List ByteArray) (i n:Nat):freeA d all i (n + 1)=(freeA d all i n && freeF d all i n):=by
 unfold freeA
 rw [List.range_succ,List.all_append]
 simp
def maximalS:Spec:={ ins:=[T22,T151],pre:=fun (d,l,_)=>SupOk d∧List.length d≤256∧List.length l≤100000,out:=fun (d,l,_)=>[.p T151 (maximalF d l)] }
attribute [local go_sem] maximalS
theorem maximal_ok:FnOk Tryz.prog 188 maximalS:=by
 refine fn_ok Tryz.func188 (by kernel_rfl) rfl Tryz.ntmps188 (by decide) (by kernel_rfl) (tyTab_ok [(208,declaredS),(209,aboveS),(183,amongS)]) (fns_cons declared_ok (fns_cons above_ok (fns_cons among_ok fns_nil))) ?_
 rintro w0 O0 ⟨d,l,u⟩ hc - ⟨hsup,hd,hl⟩
 have hd:d.length≤256:=hd
 have hl:l.length≤100000:=hl
 have hml:maximalF d l=maxG d (declaredF d l) (declaredF d l).length:=rfl
 have hal:=declaredF_len d l
 simp only [maximalS,entEnv]
 repeat' (first | exact trivial | refine eS rfl ?_ | refine ev_out_inv ?_ | refine rX [0,1,4,5,6,7,8,9,10,17,29,47] hc ?_ ?_ | (refine rC (fun hcond=>?_) (fun hcond=>?_)<;>try (cases hcond;done)))
 ·exact hl
 ·rw [hml]
  generalize declaredF d l=all at *
  refine ev_loop (ι:={i:Nat // i≤all.length}) (fun i=>⟨[(0,.p T22 d),(5,.sr 54 T9 0 (maxG d all i.1).length),(6,.p T151 all),(7,.p (.int .i64) (i.1:Int))],[(54,.arr 9 T9 (maxG d all i.1))]⟩) (fun i=>all.length - i.1) ⟨0,Nat.zero_le _⟩ (ent_match [(54,.nil)] rfl rfl ?_ ?_) (fun i=>?_)
  ·first | exact eN | refine eM ?_
   rfl
  ·first | exact eN | refine eM ?_
   rfl
  ·obtain ⟨i,hi⟩:=i
   have hgl:=maxG_len d all i
   have hgs:=maxG_succ d all i
   simp only
   repeat' (first | exact trivial | refine eS rfl ?_ | refine ev_out_inv ?_ | refine rX [0,1,4,5,6,7,8,9,10,17,29,47] hc ?_ ?_ | (refine rC (fun hcond=>?_) (fun hcond=>?_)<;>try (cases hcond;done)))
   ·exact ⟨hcond,hsup,hd⟩
   ·have hi2:i < all.length:=by exact eV
    refine ev_loop (ι:={k:Nat // k≤all.length}) (fun k=>⟨[(0,.p T22 d),(5,.sr 54 T9 0 (maxG d all i).length),(6,.p T151 all),(7,.p (.int .i64) (i:Int)),(8,.p T151 (aboveF d (all.getD i ByteArray.empty))),(9,.p .bool (freeA d all i k.1)),(10,.p (.int .i64) (k.1:Int))],[(54,.arr 9 T9 (maxG d all i))]⟩) (fun k=>all.length - k.1) ⟨0,Nat.zero_le _⟩ (ent_match [(54,.nm 54)] rfl rfl ?_ ?_) (fun k=>?_)
    ·first | exact eN | refine eM ?_
    ·first | exact eN | refine eM ?_
     rfl
    ·obtain ⟨k,hk⟩:=k
     have hfs:=freeA_succ d all i k
     simp only
     repeat' (first | exact trivial | refine eS rfl ?_ | refine ev_out_inv ?_ | refine rX [0,1,4,5,6,7,8,9,10,17,29,47] hc ?_ ?_ | (refine rC (fun hcond=>?_) (fun hcond=>?_)<;>try (cases hcond;done)))
     ·exact fun _=>hcond
     ·exact eV
     ·have hk2:k < all.length:=by exact eV
      refine ⟨⟨k + 1,by omega⟩,by simp only;omega,ent_match [(54,.nm 54)] rfl rfl ?_ ?_⟩
      ·first | exact eN | refine eM ?_
      ·simp only [hfs]
       unfold freeF
       first | exact eN | refine eM ?_
     ·refine ⟨by assumption,?_⟩
      simp only [maxN]
      omega
     ·exact eV
     ·have hk2:k=all.length:=by exact eV
      subst hk2
      rw [hcond,if_pos rfl] at hgs
      refine ⟨⟨i + 1,by omega⟩,by simp only;omega,ent_match [(54,.nm 54)] rfl rfl ?_ ?_⟩
      ·simp only [hgs]
       first | exact eN | refine eM ?_
      ·simp only [hgs]
       first | exact eN | refine eM ?_
     ·exact eV
     ·have hk2:k=all.length:=by exact eV
      subst hk2
      rw [hcond,if_neg (by simp),List.append_nil] at hgs
      refine ⟨⟨i + 1,by omega⟩,by simp only;omega,ent_match [(54,.nm 54)] rfl rfl ?_ ?_⟩
      ·simp only [hgs]
       first | exact eN | refine eM ?_
      ·simp only [hgs]
       first | exact eN | refine eM ?_
   ·have hi2:i=all.length:=by exact eV
    subst hi2
    refine frzE [54] ?_
    exact ev_fin hc [.tmp 4] rfl (.inl rfl) (by simp) (by first | exact eR | refine eRM ?_)
end
/- Functions of grammarlabref02: Of. -/
section
attribute [local go_sem] normalS
def ofA (b:List Int) (x:Int):List Int:=b.set (x.tdiv 64).toNat (bitsV .or .u64 (b.getD (x.tdiv 64).toNat 0) (shlV .u64 1 (x.tmod 64)))
def ofL (l:List Int):List Int:=l.foldl ofA (List.replicate 64 0)
def okB (x:Int):Bool:=!(decide (x < 0) || decide (4095 < x))
def ofF (l:List Int):List Int×Int:=if l.all okB=true then (normalF (ofL l),0) else ([],2)
theorem ofL_len (l:List Int):(ofL l).length=64:=by
 have key:∀ (l b:List Int),(l.foldl ofA b).length=b.length:=by
  intro l
  induction l with
  | nil=>intro b;rfl
  | cons x l ih =>
   intro b
   rw [List.foldl_cons,ih]
   simp [ofA]
 unfold ofL
 rw [key]
 simp
def ofS:Spec:={ ins:=[T40],pre:=fun _=>True,out:=fun (l,_)=>[.p T142 (ofF l).1,.p T79 (ofF l).2] }
theorem of_ok:FnOk Tryz.prog 184 ofS:=by
 refine fn_ok Tryz.func184 (by kernel_rfl) rfl Tryz.ntmps184 (by decide) (by kernel_rfl) (tyTab_ok [(176,normalS)]) (fns_cons normal_ok fns_nil) ?_
 rintro w0 O0 ⟨l,u⟩ hc ⟨⟨hl,-⟩,-⟩ -
 simp only [maxN] at hl
 simp only [ofS,entEnv]
 repeat' (first | exact trivial | refine eS rfl ?_ | refine ev_out_inv ?_ | refine rX [0,2,3,4,5,10,24] hc ?_ ?_ | (refine rC (fun hcond=>?_) (fun hcond=>?_)<;>try (cases hcond;done)))
 ·simp only [maxN];omega
 ·refine ev_loop (ι:={k:Nat // k≤l.length∧(l.take k).all okB=true}) (fun k=>⟨[(0,.p T40 l),(4,.sr 6 T209 0 (ofL (l.take k.1)).length),(5,.p (.int .i64) (k.1:Int))],[(6,.arr 209 T209 (ofL (l.take k.1)))]⟩) (fun k=>l.length - k.1) ⟨0,Nat.zero_le _,rfl⟩ (ent_match [(6,.nm 6)] rfl rfl ?_ ?_) (fun k=>?_)
  ·first | exact eN | refine eM ?_
   rfl
  ·first | exact eN | refine eM ?_
   rfl
  ·obtain ⟨k,hk,hf⟩:=k
   have hlen:=ofL_len (l.take k)
   have hs:∀ h:k < l.length,ofL (l.take (k + 1))=ofA (ofL (l.take k)) (l.getD k 0):=fun h=>fold_tk ofA l 0 _ h
   simp only
   repeat' (first | exact trivial | refine eS rfl ?_ | refine ev_out_inv ?_ | refine rX [0,2,3,4,5,10,24] hc ?_ ?_ | (refine rC (fun hcond=>?_) (fun hcond=>?_)<;>try (cases hcond;done)))
   ·exact ⟨hcond,fun _=>hcond⟩
   ·have hk2:k < l.length:=by exact eV
    have h1:ofF l=([],2):=by
     unfold ofF
     rw [if_neg]
     intro h
     have:=List.all_eq_true.1 h _ (mem_of_take_succ l 0 hk2)
     unfold okB at this
     rw [Bool.not_eq_true',Bool.or_eq_false_iff,decide_eq_false_iff_not,decide_eq_false_iff_not] at this
     rcases hcond with h | h
     ·exact this.1 h
     ·exact this.2 h
    exact ev_fin hc [.tmp 2,.tmp 3] rfl (.inl rfl) (by simp) (by rw [h1];first | exact eR | refine eRM ?_)
   ·obtain ⟨h0,h1⟩:=hcond
    have e1:Int.tdiv (l.getD k 0) 64=l.getD k 0 / 64:=Int.tdiv_eq_ediv_of_nonneg h0
    have e2:Int.tmod (l.getD k 0) 64=l.getD k 0 % 64:=Int.tmod_eq_emod_of_nonneg h0
    rw [e1,e2,hlen]
    refine ⟨?_,⟨by decide,?_,?_⟩,?_,⟨by decide,?_,?_⟩,⟨?_,?_⟩,?_,⟨by decide,?_,?_⟩,⟨?_,?_⟩,?_,?_,?_⟩<;>exact eV
   ·exact eV
   ·have hk2:k < l.length:=by exact eV
    have e:=hs hk2
    refine ⟨⟨k + 1,by omega,?_⟩,by simp only;omega,ent_match [(6,.nm 6)] rfl rfl ?_ ?_⟩
    ·rw [all_take1 l 0 _ hk2,hf,Bool.true_and]
     unfold okB
     rw [Bool.not_eq_true',Bool.or_eq_false_iff,decide_eq_false_iff_not,decide_eq_false_iff_not]
     exact ⟨Int.not_lt.2 hcond.1,Int.not_lt.2 hcond.2⟩
    ·simp only [e]
     first | exact eN | refine eM ?_
     rfl
    ·simp only [e]
     first | exact eN | refine eM ?_
     rw [← e,ofL_len,ofL_len]
   ·have hk2:l.take k=l:=List.take_of_length_le (by exact eV)
    rw [hk2] at hf ⊢
    have h1:ofF l=(normalF (ofL l),0):=by unfold ofF;rw [if_pos hf]
    have hlen2:=ofL_len l
    refine frzE [6] ?_
    repeat' (first | exact trivial | refine eS rfl ?_ | refine ev_out_inv ?_ | refine rX [0,2,3,4,5,10,24] hc ?_ ?_ | (refine rC (fun hcond=>?_) (fun hcond=>?_)<;>try (cases hcond;done)))
    ·rw [hlen2];decide
    ·exact ev_fin hc [.tmp 2,.tmp 3] rfl (.inl rfl) (by simp) (by rw [h1];first | exact eR | refine eRM ?_)
end
/- Functions of grammarlabref04: in, Subsumes. -/
section
attribute [local go_sem] sameS subsetS
def inBF (l:List (List Int)) (b:List Int):Bool:=l.any fun x=>sameF x b
def inBS:Spec:={ ins:=[T191,T142],pre:=fun _=>True,out:=fun (l,b,_)=>[.p .bool (inBF l b)],lend:=true }
theorem inB_ok:FnOk Tryz.prog 185 inBS:=by
 refine fn_ok Tryz.func185 (by kernel_rfl) rfl Tryz.ntmps185 (by decide) (by kernel_rfl) (tyTab_ok [(177,sameS)]) (fns_cons same_ok fns_nil) ?_
 rintro w0 O0 ⟨l,n,u⟩ hc ⟨⟨hl,-⟩,-⟩ -
 simp only [maxN] at hl
 simp only [inBS,entEnv]
 repeat' (first | exact trivial | refine eS rfl ?_ | refine ev_out_inv ?_ | refine rX [0,1,4,5,9,17] hc ?_ ?_ | (refine rC (fun hcond=>?_) (fun hcond=>?_)<;>try (cases hcond;done)))
 refine ev_loop (ι:={k:Nat // k≤l.length∧(l.take k).any (fun x=>sameF x n)=false}) (fun k=>⟨[(0,.p T191 l),(1,.p T142 n),(5,.p (.int .i64) (k.1:Int))],[]⟩) (fun k=>l.length - k.1) ⟨0,by simp⟩ (ent_match [] rfl rfl ?_ ?_) (fun k=>?_)
 ·first | exact eN | refine eM ?_
 ·first | exact eN | refine eM ?_
 ·obtain ⟨k,hk,hany⟩:=k
  repeat' (first | exact trivial | refine eS rfl ?_ | refine ev_out_inv ?_ | refine rX [0,1,4,5,9,17] hc ?_ ?_ | (refine rC (fun hcond=>?_) (fun hcond=>?_)<;>try (cases hcond;done)))
  ·exact eV
  ·have hkl:k < l.length:=by exact eV
   have h1:inBF l n=true:=any_of_get2 l [] _ hkl hcond
   exact ev_fin hc [.tmp 4] rfl (.inl rfl) (by simp) (by rw [h1];first | exact eR | refine eRM ?_)
  ·exact eV
  ·have hkl:k < l.length:=by exact eV
   refine ⟨⟨k + 1,by exact eV,?_⟩,by simp only;exact eV,ent_match [] rfl rfl ?_ ?_⟩
   ·rw [any_take2 l [] _ hkl,hany];exact hcond
   ·first | exact eN | refine eM ?_
   ·first | exact eN | refine eM ?_
  ·have hk:l.take k=l:=List.take_of_length_le (by exact eV)
   rw [hk] at hany
   have h1:inBF l n=false:=hany
   exact ev_fin hc [.tmp 4] rfl (.inl rfl) (by simp) (by rw [h1];first | exact eR | refine eRM ?_)
abbrev CodedD:=ByteArray×List Int
abbrev c0:CodedD:=(ByteArray.empty,[])
def subsF (l:List CodedD) (i j:Int):Bool:=subsetF (l.getD j.toNat c0).2 (l.getD i.toNat c0).2
def subsS:Spec:={ ins:=[T138,T3,T3],pre:=fun (l,i,j,_)=>((0:Int)≤i∧i < (List.length l:Int))∧((0:Int)≤j∧j < (List.length l:Int))∧(∀ x∈(l:List CodedD),x.2.length≤100000),out:=fun (l,i,j,_)=>[.p .bool (subsF l i j)],lend:=true }
theorem subs_ok:FnOk Tryz.prog 139 subsS:=by
 refine fn_ok Tryz.func139 (by kernel_rfl) rfl Tryz.ntmps139 (by decide) (by kernel_rfl) (tyTab_ok [(190,subsetS)]) (fns_cons subset_ok fns_nil) ?_
 rintro w0 O0 ⟨l,i,j,u⟩ hc - ⟨hi,hj,hx⟩
 simp only [subsS,entEnv]
 repeat' (first | exact trivial | refine eS rfl ?_ | refine ev_out_inv ?_ | refine rX [0,1,2,6] hc ?_ ?_ | (refine rC (fun hcond=>?_) (fun hcond=>?_)<;>try (cases hcond;done)))
 ·exact ⟨hj,hi,hx _ (mem_of_take_succ (l:List CodedD) c0 (by exact eV))⟩
 ·exact ev_fin hc [.tmp 6] rfl (.inl rfl) (by simp) (by unfold subsF;first | exact eR | refine eRM ?_)
end
/- Functions of grammarlabref05: number. -/
section
attribute [local go_sem] sameS
def numG (s:ByteArray):Nat→List CodedD→Int
 | _,[]=>-1
 | k,x :: l=>if strEq x.1 s=true then (k:Int) else numG s (k + 1) l
def numberF (l:List CodedD) (s:ByteArray):Int:=numG s 0 l
theorem numG_step (s:ByteArray) (l:List CodedD) {k:Nat} (h:k < l.length):numG s k (l.drop k)=if strEq (l.getD k c0).1 s=true then (k:Int) else numG s (k + 1) (l.drop (k + 1)):=by
 rw [List.drop_eq_getElem_cons h]
 have e:l.getD k c0=l[k]:=by simp [List.getD_eq_getElem?_getD,h]
 rw [e]
 rfl
def numberS:Spec:={ ins:=[T138,T9],pre:=fun _=>True,out:=fun (l,s,_)=>[.p T3 (numberF l s)],lend:=true }
theorem number_ok:FnOk Tryz.prog 141 numberS:=by
 refine fn_ok Tryz.func141 (by kernel_rfl) rfl Tryz.ntmps141 (by decide) (by kernel_rfl) (tyTab_ok []) fns_nil ?_
 rintro w0 O0 ⟨l,s,u⟩ hc ⟨⟨hl,-⟩,-⟩ -
 simp only [maxN] at hl
 simp only [numberS,entEnv]
 repeat' (first | exact trivial | refine eS rfl ?_ | refine ev_out_inv ?_ | refine rX [0,1,4,5,9,18] hc ?_ ?_ | (refine rC (fun hcond=>?_) (fun hcond=>?_)<;>try (cases hcond;done)))
 refine ev_loop (ι:={k:Nat // k≤l.length∧numG s k (l.drop k)=numberF l s}) (fun k=>⟨[(0,.p T138 l),(1,.p T9 s),(5,.p (.int .i64) (k.1:Int))],[]⟩) (fun k=>l.length - k.1) ⟨0,Nat.zero_le _,rfl⟩ (ent_match [] rfl rfl ?_ ?_) (fun k=>?_)
 ·first | exact eN | refine eM ?_
 ·first | exact eN | refine eM ?_
 ·obtain ⟨k,hk,hf⟩:=k
  simp only
  repeat' (first | exact trivial | refine eS rfl ?_ | refine ev_out_inv ?_ | refine rX [0,1,4,5,9,18] hc ?_ ?_ | (refine rC (fun hcond=>?_) (fun hcond=>?_)<;>try (cases hcond;done)))
  ·exact hcond
  ·have hk2:k < l.length:=by exact eV
   rw [numG_step s l hk2,if_pos hcond] at hf
   exact ev_fin hc [.tmp 4] rfl (.inl rfl) (by simp) (by rw [← hf];first | exact eR | refine eRM ?_)
  ·exact eV
  ·have hk2:k < l.length:=by exact eV
   rw [numG_step s l hk2,if_neg (by rw [hcond];simp)] at hf
   refine ⟨⟨k + 1,by omega,hf⟩,by simp only;omega,ent_match [] rfl rfl ?_ ?_⟩
   ·first | exact eN | refine eM ?_
   ·first | exact eN | refine eM ?_
  ·have hk2:l.drop k=[]:=List.drop_eq_nil_of_le (by exact eV)
   rw [hk2] at hf
   exact ev_fin hc [.tmp 4] rfl (.inl rfl) (by simp) (by rw [← hf];first | exact eR | refine eRM ?_;rfl)
end
/- Functions of grammarlabref04: Find. -/
section
attribute [local go_sem] sameS normalS
def codeG (s:List Int):Nat→List CodedD→Int
 | _,[]=>-1
 | k,x :: l=>if sameF x.2 s=true then (k:Int) else codeG s (k + 1) l
def findCF (l:List CodedD) (b:List Int):Int:=codeG (normalF b) 0 l
theorem codeG_step (s:List Int) (l:List CodedD) {k:Nat} (h:k < l.length):codeG s k (l.drop k)=if sameF (l.getD k c0).2 s=true then (k:Int) else codeG s (k + 1) (l.drop (k + 1)):=by
 rw [List.drop_eq_getElem_cons h]
 have e:l.getD k c0=l[k]:=by simp [List.getD_eq_getElem?_getD,h]
 rw [e]
 rfl
def findCS:Spec:={ ins:=[T138,T142],pre:=fun (_,b,_)=>List.length b≤100000,out:=fun (l,b,_)=>[.p T3 (findCF l b)],lend:=true }
theorem findC_ok:FnOk Tryz.prog 132 findCS:=by
 refine fn_ok Tryz.func132 (by kernel_rfl) rfl Tryz.ntmps132 (by decide) (by kernel_rfl) (tyTab_ok [(176,normalS),(177,sameS)]) (fns_cons normal_ok (fns_cons same_ok fns_nil)) ?_
 rintro w0 O0 ⟨l,b,u⟩ hc ⟨⟨hl,-⟩,-⟩ hb
 simp only [maxN] at hl
 simp only [findCS,entEnv]
 repeat' (first | exact trivial | refine eS rfl ?_ | refine ev_out_inv ?_ | refine rX [0,1,4,5,6,12,21] hc ?_ ?_ | (refine rC (fun hcond=>?_) (fun hcond=>?_)<;>try (cases hcond;done)))
 ·exact hb
 ·have hcg:findCF l b=codeG (normalF b) 0 l:=rfl
  rw [hcg]
  generalize normalF b=s at *
  refine ev_loop (ι:={k:Nat // k≤l.length∧codeG s k (l.drop k)=codeG s 0 l}) (fun k=>⟨[(0,.p T138 l),(5,.p T142 s),(6,.p (.int .i64) (k.1:Int))],[]⟩) (fun k=>l.length - k.1) ⟨0,Nat.zero_le _,rfl⟩ (ent_match [] rfl rfl ?_ ?_) (fun k=>?_)
  ·first | exact eN | refine eM ?_
  ·first | exact eN | refine eM ?_
  ·obtain ⟨k,hk,hf⟩:=k
   simp only
   repeat' (first | exact trivial | refine eS rfl ?_ | refine ev_out_inv ?_ | refine rX [0,1,4,5,6,12,21] hc ?_ ?_ | (refine rC (fun hcond=>?_) (fun hcond=>?_)<;>try (cases hcond;done)))
   ·exact hcond
   ·have hk2:k < l.length:=by exact eV
    rw [codeG_step s l hk2,if_pos hcond] at hf
    exact ev_fin hc [.tmp 4] rfl (.inl rfl) (by simp) (by rw [← hf];first | exact eR | refine eRM ?_)
   ·exact eV
   ·have hk2:k < l.length:=by exact eV
    rw [codeG_step s l hk2,if_neg (by rw [hcond];simp)] at hf
    refine ⟨⟨k + 1,by omega,hf⟩,by simp only;omega,ent_match [] rfl rfl ?_ ?_⟩
    ·first | exact eN | refine eM ?_
    ·first | exact eN | refine eM ?_
   ·have hk2:l.drop k=[]:=List.drop_eq_nil_of_le (by exact eV)
    rw [hk2] at hf
    exact ev_fin hc [.tmp 4] rfl (.inl rfl) (by simp) (by rw [← hf];first | exact eR | refine eRM ?_;rfl)
end
/- Functions of grammarlabref05: value. -/
section
attribute [local go_sem] sameS
def valG (s:ByteArray):List (ByteArray×ByteArray)→ByteArray×Bool
 | []=>(ByteArray.empty,false)
 | x :: l=>if strEq x.1 s=true then (x.2,true) else valG s l
def valueF (x:DeclD) (s:ByteArray):ByteArray×Bool:=valG s x.2.2
theorem valG_step (s:ByteArray) (l:List (ByteArray×ByteArray)) {k:Nat} (h:k < l.length):valG s (l.drop k)=if strEq (l.getD k (ByteArray.empty,ByteArray.empty)).1 s=true then ((l.getD k (ByteArray.empty,ByteArray.empty)).2,true) else valG s (l.drop (k + 1)):=by
 rw [List.drop_eq_getElem_cons h]
 have e:l.getD k (ByteArray.empty,ByteArray.empty)=l[k]:=by simp [List.getD_eq_getElem?_getD,h]
 rw [e]
 rfl
def valueS:Spec:={ ins:=[T154,T9],pre:=fun _=>True,out:=fun (x,s,_)=>[.p T9 (valueF x s).1,.p .bool (valueF x s).2],lend:=true }
theorem value_ok:FnOk Tryz.prog 175 valueS:=by
 refine fn_ok Tryz.func175 (by kernel_rfl) rfl Tryz.ntmps175 (by decide) (by kernel_rfl) (tyTab_ok []) fns_nil ?_
 rintro w0 O0 ⟨⟨nm,sup,fe⟩,s,u⟩ hc ⟨⟨-,-,hfe,-⟩,-⟩ -
 simp only [maxN] at hfe
 simp only [valueS,entEnv]
 repeat' (first | exact trivial | refine eS rfl ?_ | refine ev_out_inv ?_ | refine rX [0,1,2,4,5,6,11,21] hc ?_ ?_ | (refine rC (fun hcond=>?_) (fun hcond=>?_)<;>try (cases hcond;done)))
 have hz:({ data:=#[] }:ByteArray).size≤maxN:=by decide
 rw [if_pos hz]
 refine ev_loop (ι:={k:Nat // k≤fe.length∧valG s (fe.drop k)=valueF (nm,sup,fe) s}) (fun k=>⟨[(1,.p T9 s),(2,.bp 2 [] 0),(6,.p (.int .i64) (k.1:Int))],[(2,.box 154 true [.p T9 nm,.p T151 sup,.p T152 fe])]⟩) (fun k=>fe.length - k.1) ⟨0,Nat.zero_le _,rfl⟩ (ent_match [(2,.nm 2)] rfl rfl ?_ ?_) (fun k=>?_)
 ·first | exact eN | refine eM ?_
 ·first | exact eN | refine eM ?_
 ·obtain ⟨k,hk,hf⟩:=k
  simp only
  repeat' (first | exact trivial | refine eS rfl ?_ | refine ev_out_inv ?_ | refine rX [0,1,2,4,5,6,11,21] hc ?_ ?_ | (refine rC (fun hcond=>?_) (fun hcond=>?_)<;>try (cases hcond;done)))
  ·exact hcond
  ·assumption
  ·have hk2:k < fe.length:=by exact eV
   rw [valG_step s fe hk2,if_pos hcond] at hf
   exact ev_fin hc [.tmp 4,.tmp 5] rfl (.inl rfl) (by simp) (by rw [← hf];first | exact eR | refine eRM ?_)
  ·exact eV
  ·have hk2:k < fe.length:=by exact eV
   rw [valG_step s fe hk2,if_neg (by rw [hcond];simp)] at hf
   refine ⟨⟨k + 1,by omega,hf⟩,by simp only;omega,ent_match [(2,.nm 2)] rfl rfl ?_ ?_⟩
   ·first | exact eN | refine eM ?_
   ·first | exact eN | refine eM ?_
  ·have hk2:fe.drop k=[]:=List.drop_eq_nil_of_le (by exact eV)
   rw [hk2] at hf
   rw [if_pos hz]
   exact ev_fin hc [.tmp 4,.tmp 5] rfl (.inl rfl) (by simp) (by rw [← hf];first | exact eR | refine eRM ?_;exact ⟨rfl,rfl⟩)
end
/- Functions of grammarlabref04: before. -/
section
attribute [local go_sem] countS
def beforeF (a b:CodedD):Bool:=decide (((listF b.2).length:Int) < ((listF a.2).length:Int)) || ((listF a.2).length:Int) == ((listF b.2).length:Int) && strLt a.1 b.1
def beforeS:Spec:={ ins:=[T144,T144],pre:=fun (a,b,_)=>List.length (a:CodedD).2≤100000∧List.length (b:CodedD).2≤100000,out:=fun (a,b,_)=>[.p .bool (beforeF a b)],lend:=true }
theorem before_ok:FnOk Tryz.prog 138 beforeS:=by
 refine fn_ok Tryz.func138 (by kernel_rfl) rfl Tryz.ntmps138 (by decide) (by kernel_rfl) (tyTab_ok [(189,countS)]) (fns_cons count_ok fns_nil) ?_
 rintro w0 O0 ⟨⟨an,ac⟩,⟨bn,bc⟩,u⟩ hc - ⟨ha,hb⟩
 simp only [beforeS,entEnv]
 repeat' (first | exact trivial | refine eS rfl ?_ | refine ev_out_inv ?_ | refine rX [0,1,2,3,4,5,6] hc ?_ ?_ | (refine rC (fun hcond=>?_) (fun hcond=>?_)<;>try (cases hcond;done)))
 ·exact ha
 ·exact hb
 ·exact ev_fin hc [.tmp 4] rfl (.inl rfl) (by simp) (by unfold beforeF;first | exact eR | refine eRM ?_)
end
/- Functions of grammarlabref04: code. -/
section
attribute [local go_sem] belowS amongS ofS
def selG (low all:List ByteArray) (n:Nat):List Int:=((List.range n).filter fun (i:Nat)=>amongF low (all.getD i ByteArray.empty)).map fun (i:Nat)=>(i:Int)
theorem selG_succ (low all:List ByteArray) (n:Nat):selG low all (n + 1)=selG low all n++if amongF low (all.getD n ByteArray.empty)=true then [(n:Int)] else []:=by
 unfold selG
 rw [List.range_succ,List.filter_append,List.map_append]
 congr 1
 rw [List.filter_cons,List.filter_nil]
 split<;>rfl
theorem selG_len (low all:List ByteArray) (n:Nat):(selG low all n).length≤n:=by
 unfold selG
 rw [List.length_map]
 exact Nat.le_trans (List.length_filter_le _ _) (by simp)
def codeF (d:List DeclD) (all:List ByteArray) (s:ByteArray):List Int:=(ofF (selG (belowF d s) all all.length)).1
def codeS:Spec:={ ins:=[T22,T151,T9],pre:=fun (d,l,_,_)=>List.length d≤256∧List.length l≤100000,out:=fun (d,l,s,_)=>[.p T142 (codeF d l s)] }
theorem code_ok:FnOk Tryz.prog 135 codeS:=by
 refine fn_ok Tryz.func135 (by kernel_rfl) rfl Tryz.ntmps135 (by decide) (by kernel_rfl) (tyTab_ok [(182,belowS),(183,amongS),(184,ofS)]) (fns_cons below_ok (fns_cons among_ok (fns_cons of_ok fns_nil))) ?_
 rintro w0 O0 ⟨d,l,s,u⟩ hc - ⟨hd,hl⟩
 have hl:l.length≤100000:=hl
 have hcf:codeF d l s=(ofF (selG (belowF d s) l l.length)).1:=rfl
 simp only [codeS,entEnv]
 repeat' (first | exact trivial | refine eS rfl ?_ | refine ev_out_inv ?_ | refine rX [0,1,2,6,7,8,9,10,18,26] hc ?_ ?_ | (refine rC (fun hcond=>?_) (fun hcond=>?_)<;>try (cases hcond;done)))
 ·exact hd
 ·rw [hcf]
  generalize belowF d s=low at *
  refine ev_loop (ι:={n:Nat // n≤l.length}) (fun n=>⟨[(0,.p T22 d),(1,.p T151 l),(2,.p T9 s),(7,.p T151 low),(8,.sr 30 T3 0 (selG low l n.1).length),(9,.p (.int .i64) (n.1:Int))],[(30,.arr 3 T3 (selG low l n.1))]⟩) (fun n=>l.length - n.1) ⟨0,Nat.zero_le _⟩ (ent_match [(30,.nil)] rfl rfl ?_ ?_) (fun n=>?_)
  ·first | exact eN | refine eM ?_
   rfl
  ·first | exact eN | refine eM ?_
   rfl
  ·obtain ⟨n,hn⟩:=n
   have hz:=selG_len low l n
   have hs:=selG_succ low l n
   simp only
   repeat' (first | exact trivial | refine eS rfl ?_ | refine ev_out_inv ?_ | refine rX [0,1,2,6,7,8,9,10,18,26] hc ?_ ?_ | (refine rC (fun hcond=>?_) (fun hcond=>?_)<;>try (cases hcond;done)))
   ·exact hcond
   ·rw [hcond,if_pos rfl] at hs
    simp only [maxN]
    dsimp only [Ty.den] at *
    omega
   ·exact eV
   ·have hn2:n < l.length:=by exact eV
    rw [hcond,if_pos rfl] at hs
    refine ⟨⟨n + 1,by omega⟩,by simp only;omega,ent_match [(30,.nm 30)] rfl rfl ?_ ?_⟩
    ·simp only [hs]
     first | exact eN | refine eM ?_
    ·simp only [hs]
     first | exact eN | refine eM ?_
   ·exact eV
   ·have hn2:n < l.length:=by exact eV
    rw [hcond,if_neg (by simp),List.append_nil] at hs
    refine ⟨⟨n + 1,by omega⟩,by simp only;omega,ent_match [(30,.nm 30)] rfl rfl ?_ ?_⟩
    ·simp only [hs]
     first | exact eN | refine eM ?_
    ·simp only [hs]
     first | exact eN | refine eM ?_
   ·have hn2:n=l.length:=by exact eV
    subst hn2
    refine frzE [30] ?_
    repeat' (first | exact trivial | refine eS rfl ?_ | refine ev_out_inv ?_ | refine rX [0,1,2,6,7,8,9,10,18,26] hc ?_ ?_ | (refine rC (fun hcond=>?_) (fun hcond=>?_)<;>try (cases hcond;done)))
    exact ev_fin hc [.tmp 6] rfl (.inl rfl) (by simp) (by first | exact eR | refine eRM ?_)
end
/- Functions of grammarlabref05: feats. -/
section
attribute [local go_sem] putS
def fputA (o:List ByteArray) (f:ByteArray×ByteArray):List ByteArray:=putF o f.1
def featsA (o:List ByteArray) (x:DeclD):List ByteArray:=x.2.2.foldl fputA o
def featsF (d:List DeclD):List ByteArray:=d.foldl featsA []
theorem fputA_len (l:List (ByteArray×ByteArray)):∀ o:List ByteArray,(l.foldl fputA o).length≤o.length + l.length:=by
 induction l with
 | nil=>intro o;simp
 | cons x l ih =>
  intro o
  have h1:=ih (fputA o x)
  have h2:(fputA o x).length≤o.length + 1:=putF_len o x.1
  simp only [List.foldl_cons,List.length_cons]
  omega
theorem featsA_len {d:List DeclD} (h:∀ x∈d,x.2.2.length≤256):∀ (l:List DeclD),(∀ x∈l,x∈d)→∀ o:List ByteArray,(l.foldl featsA o).length≤o.length + 256 * l.length:=by
 intro l
 induction l with
 | nil=>intro _ o;simp
 | cons x l ih =>
  intro hl o
  have h1:=ih (fun y hy=>hl y (by simp [hy])) (featsA o x)
  have h2:=fputA_len x.2.2 o
  have h3:=h x (hl x (by simp))
  have h4:(featsA o x).length=(x.2.2.foldl fputA o).length:=rfl
  simp only [List.foldl_cons,List.length_cons]
  omega
def featsS:Spec:={ ins:=[T22],pre:=fun (d,_)=>List.length d≤256∧(∀ x∈(d:List DeclD),x.2.2.length≤256),out:=fun (d,_)=>[.p T151 (featsF d)] }
theorem feats_ok:FnOk Tryz.prog 130 featsS:=by
 refine fn_ok Tryz.func130 (by kernel_rfl) rfl Tryz.ntmps130 (by decide) (by kernel_rfl) (tyTab_ok [(174,putS)]) (fns_cons put_ok fns_nil) ?_
 rintro w0 O0 ⟨d,u⟩ hc - ⟨hd,hx⟩
 have hd:d.length≤256:=hd
 simp only [featsS,entEnv]
 repeat' (first | exact trivial | refine eS rfl ?_ | refine ev_out_inv ?_ | refine rX [0,2,3,4,5,9,19] hc ?_ ?_ | (refine rC (fun hcond=>?_) (fun hcond=>?_)<;>try (cases hcond;done)))
 refine ev_loop (ι:={i:Nat // i≤d.length}) (fun i=>⟨[(0,.p T22 d),(3,.p T151 (featsF (d.take i.1))),(4,.p (.int .i64) (i.1:Int))],[]⟩) (fun i=>d.length - i.1) ⟨0,Nat.zero_le _⟩ (ent_match [] rfl rfl ?_ ?_) (fun i=>?_)
 ·first | exact eN | refine eM ?_
 ·first | exact eN | refine eM ?_
  rfl
 ·obtain ⟨i,hi⟩:=i
  have hlen:=featsA_len hx (d.take i) (fun x h=>List.mem_of_mem_take h) []
  have htl:=List.length_take_le i d
  have hs:=fun h:i < d.length=>fold_tk featsA d d0 [] h
  have hfe:∀ e,featsF e=e.foldl featsA []:=fun _=>rfl
  simp only
  repeat' (first | exact trivial | refine eS rfl ?_ | refine ev_out_inv ?_ | refine rX [0,2,3,4,5,9,19] hc ?_ ?_ | (refine rC (fun hcond=>?_) (fun hcond=>?_)<;>try (cases hcond;done)))
  ·have hi2:i < d.length:=by exact eV
   have hxi:=hx _ (mem_of_take_succ d d0 hi2)
   have hs:=hs hi2
   rw [← hfe,← hfe] at hs
   rw [← hfe] at hlen
   generalize featsF (d.take i)=o at *
   refine ev_loop (ι:={k:Nat // k≤(d.getD i d0).2.2.length}) (fun k=>⟨[(0,.p T22 d),(3,.p T151 (((d.getD i d0).2.2.take k.1).foldl fputA o)),(4,.p (.int .i64) (i:Int)),(5,.p (.int .i64) (k.1:Int))],[]⟩) (fun k=>(d.getD i d0).2.2.length - k.1) ⟨0,Nat.zero_le _⟩ (ent_match [] rfl rfl ?_ ?_) (fun k=>?_)
   ·first | exact eN | refine eM ?_
   ·first | exact eN | refine eM ?_
    rfl
   ·obtain ⟨k,hk⟩:=k
    have hk':k≤(d.getD i d0).2.2.length:=hk
    have hfl:=fputA_len ((d.getD i d0).2.2.take k) o
    have hkl:=List.length_take_le k (d.getD i d0).2.2
    have hss:=fun h:k < (d.getD i d0).2.2.length=>fold_tk fputA (d.getD i d0).2.2 (ByteArray.empty,ByteArray.empty) o h
    simp only
    repeat' (first | exact trivial | refine eS rfl ?_ | refine ev_out_inv ?_ | refine rX [0,2,3,4,5,9,19] hc ?_ ?_ | (refine rC (fun hcond=>?_) (fun hcond=>?_)<;>try (cases hcond;done)))
    ·assumption
    ·refine ⟨by assumption,hcond,?_⟩
     simp only [List.length_nil] at hlen
     dsimp only [Ty.den] at *
     omega
    ·have h1:(k:Int) < ((d.getD i d0).2.2.length:Int):=hcond
     exact eV
    ·have hk2:k < (d.getD i d0).2.2.length:=Int.ofNat_lt.1 hcond
     have e:=hss hk2
     refine ⟨⟨k + 1,hk2⟩,by simp only;omega,ent_match [] rfl rfl ?_ ?_⟩
     ·first | exact eN | refine eM ?_
     ·simp only [e]
      unfold fputA
      first | exact eN | refine eM ?_
    ·have:=hd
     exact eV
    ·have hk2:(d.getD i d0).2.2.take k=(d.getD i d0).2.2:=List.take_of_length_le (Int.ofNat_le.1 hcond)
     have e:featsF (d.take (i + 1))=((d.getD i d0).2.2.take k).foldl fputA o:=by rw [hk2];exact hs
     refine ⟨⟨i + 1,hi2⟩,by simp only;omega,ent_match [] rfl rfl ?_ ?_⟩
     ·first | exact eN | refine eM ?_
     ·simp only [e]
      first | exact eN | refine eM ?_
  ·have hk2:d.take i=d:=List.take_of_length_le (by exact eV)
   rw [hk2]
   exact ev_fin hc [.tmp 2] rfl (.inl rfl) (by simp) (by first | exact eR | refine eRM ?_)
end
/- What a hierarchy that passes grammarlabref03.Check is: all supertypes are declared. -/
section
theorem supG_zero {d:List DeclD} {l:List ByteArray}:∀ {r:List ByteArray} {k:Nat},supG d l k r=0→∀ s∈r,0≤dfindF d s
 | [],_,_,s,hs=>by cases hs
 | x :: r,k,h,s,hs=>by
  simp only [supG] at h
  split at h
  ·cases h
  ·rename_i h1
   split at h
   ·cases h
   ·rcases List.mem_cons.1 hs with rfl | hs
    ·omega
    ·exact supG_zero h s hs
theorem supersG_zero {d:List DeclD}:∀ {l:List DeclD},supersG d l=0→∀ x∈l,∀ s∈x.2.1,0≤dfindF d s
 | [],_,x,hx=>by cases hx
 | y :: l,h,x,hx=>by
  simp only [supersG] at h
  split at h
  ·rename_i h1;exact absurd h h1
  ·rename_i h1
   rcases List.mem_cons.1 hx with rfl | hx
   ·exact supG_zero (Classical.byContradiction h1)
   ·exact supersG_zero h x hx
theorem supOk_of {d:List DeclD} (h:supersF d=0):SupOk d:=supersG_zero h
theorem check3_zero {d:List DeclD} (h:check3F d=0):SupOk d∧d.length≤256∧rootsN d=1∧namesF d=0∧d.length≤(placedF d).length:=by
 unfold check3F at h
 split at h
 ·rename_i h1;exact absurd h h1
 ·rename_i h1
  split at h
  ·rename_i h2;exact absurd h h2
  ·rename_i h2
   split at h
   ·rename_i h3;exact absurd h h3
   ·rename_i h3
    split at h
    ·cases h
    ·rename_i h4
     split at h
     ·cases h
     ·rename_i h5
      exact ⟨supOk_of (Classical.byContradiction h3),sizesF_zero (Classical.byContradiction h1),Classical.byContradiction h4,Classical.byContradiction h2,by omega⟩
end
/- Functions of grammarlabref04: family. -/
section
attribute [local go_sem] inBS andS
def famK (l:List (List Int)) (i k:Nat):List (List Int) :=
 if (decide (0 < ((andF (l.getD i []) (l.getD k [])).length:Int)) && !inBF l (andF (l.getD i []) (l.getD k [])))=true then l++[andF (l.getD i []) (l.getD k [])] else l
def famI (i:Nat):Nat→Nat→List (List Int)→List (List Int)
 | 0,_,l=>l
 | n + 1,k,l=>if l.length≤256 then famI i n (k + 1) (famK l i k) else l
def famG:Nat→Nat→List (List Int)→List (List Int)
 | 0,_,l=>l
 | n + 1,i,l=>if i < l.length∧l.length≤256 then famG n (i + 1) (famI i i 0 l) else l
def familyF (c:List (List Int)):List (List Int):=famG 257 0 c
theorem andF_len (a b:List Int):(andF a b).length≤a.length:=by
 unfold andF normalF
 have:=zipL_len .and a b a.length
 rw [List.length_take]
 omega
structure FamOk (l:List (List Int)):Prop where
 len:l.length≤257
 wid:∀ c∈l,c.length≤64
theorem wid_getD {l:List (List Int)} (h:∀ c∈l,c.length≤64) (k:Nat):(l.getD k []).length≤64:=by
 rw [List.getD_eq_getElem?_getD]
 cases hh:l[k]? with
 | none=>simp
 | some x=>exact h x (List.mem_of_getElem? hh)
theorem famK_wid {l:List (List Int)} (h:∀ c∈l,c.length≤64) (i k:Nat):∀ c∈famK l i k,c.length≤64:=by
 unfold famK
 split
 ·intro c hc
  rcases List.mem_append.1 hc with hc | hc
  ·exact h c hc
  ·have:c=andF (l.getD i []) (l.getD k []):=by simpa using hc
   rw [this]
   exact Nat.le_trans (andF_len _ _) (wid_getD h i)
 ·exact h
theorem famK_len (l:List (List Int)) (i k:Nat):l.length≤(famK l i k).length∧(famK l i k).length≤l.length + 1:=by
 unfold famK
 split
 ·simp
 ·exact ⟨Nat.le_refl _,Nat.le_succ _⟩
def familyS:Spec:={ ins:=[T191],pre:=fun (c,_)=>List.length c≤256∧∀ x∈(c:List (List Int)),x.length≤64,out:=fun (c,_)=>[.p T191 (familyF c)] }
theorem family_ok:FnOk Tryz.prog 136 familyS:=by
 refine fn_ok Tryz.func136 (by kernel_rfl) rfl Tryz.ntmps136 (by decide) (by kernel_rfl) (tyTab_ok [(143,andS),(185,inBS)]) (fns_cons and_ok (fns_cons inB_ok fns_nil)) ?_
 rintro w0 O0 ⟨c,u⟩ hc - ⟨hcl,hcw⟩
 have hcl:c.length≤256:=hcl
 simp only [familyS,entEnv]
 repeat' (first | exact trivial | refine eS rfl ?_ | refine ev_out_inv ?_ | refine rX [0,2,3,4,5,6,18,28,48] hc ?_ ?_ | (refine rC (fun hcond=>?_) (fun hcond=>?_)<;>try (cases hcond;done)))
 ·simp only [maxN];dsimp only [Ty.den] at *;omega
 ·refine ev_loop (ι:={x:Nat×List (List Int) // x.1≤256∧FamOk x.2∧famG (257 - x.1) x.1 x.2=familyF c}) (fun x=>⟨[(3,.sr 7 T142 0 x.1.2.length),(4,.p (.int .i64) (x.1.1:Int))],[(7,.arr 142 T142 x.1.2)]⟩) (fun x=>257 - x.1.1) ⟨(0,c),by simp,⟨by simp only;omega,hcw⟩,rfl⟩ (ent_match [(7,.nm 7)] rfl rfl ?_ ?_) (fun x=>?_)
  ·first | exact eN | refine eM ?_
  ·first | exact eN | refine eM ?_
  ·obtain ⟨⟨i,l⟩,hi,⟨hll,hlw⟩,hg⟩:=x
   simp only at hi hll hlw hg
   simp only
   repeat' (first | exact trivial | refine eS rfl ?_ | refine ev_out_inv ?_ | refine rX [0,2,3,4,5,6,18,28,48] hc ?_ ?_ | (refine rC (fun hcond=>?_) (fun hcond=>?_)<;>try (cases hcond;done)))
   ·have hi2:i < l.length:=by omega
    have hl2:l.length≤256:=by omega
    have hg2:famG (256 - i) (i + 1) (famI i i 0 l)=familyF c:=by
     have e:257 - i=(256 - i) + 1:=by omega
     rw [← hg,e]
     show _=if i < l.length∧l.length≤256 then famG (256 - i) (i + 1) (famI i i 0 l) else l
     rw [if_pos ⟨hi2,hl2⟩]
    refine ev_loop (ι:={y:Nat×List (List Int) // y.1≤i∧FamOk y.2∧l.length≤y.2.length∧famI i (i - y.1) y.1 y.2=famI i i 0 l}) (fun y=>⟨[(3,.sr 7 T142 0 y.1.2.length),(4,.p (.int .i64) (i:Int)),(5,.p (.int .i64) (y.1.1:Int))],[(7,.arr 142 T142 y.1.2)]⟩) (fun y=>i - y.1.1) ⟨(0,l),by simp,⟨hll,hlw⟩,Nat.le_refl _,rfl⟩ (ent_match [(7,.nm 7)] rfl rfl ?_ ?_) (fun y=>?_)
    ·first | exact eN | refine eM ?_
    ·first | exact eN | refine eM ?_
    ·obtain ⟨⟨k,m⟩,hk,⟨hml,hmw⟩,hlm,hf⟩:=y
     simp only at hk hml hmw hlm hf
     simp only
     repeat' (first | exact trivial | refine eS rfl ?_ | refine ev_out_inv ?_ | refine rX [0,2,3,4,5,6,18,28,48] hc ?_ ?_ | (refine rC (fun hcond=>?_) (fun hcond=>?_)<;>try (cases hcond;done)))
     ·exact ⟨by exact eV,by exact eV,Nat.le_trans (wid_getD hmw i) (by decide)⟩
     ·simp only [maxN];omega
     ·omega
     ·have e:famK m i k=m++[andF (m.getD i []) (m.getD k [])]:=by
       unfold famK
       rw [if_pos]
       rw [Bool.and_eq_true,decide_eq_true_eq,Bool.not_eq_true']
       exact hcond
      have hw:=famK_wid hmw i k
      have h2:=famK_len m i k
      refine ⟨⟨(k + 1,famK m i k),by simp only;omega,⟨by simp only;omega,hw⟩,by simp only;omega,?_⟩,by simp only;omega,ent_match [(7,.nm 7)] rfl rfl ?_ ?_⟩
      ·simp only
       rw [← hf,show i - k=(i - (k + 1)) + 1 by omega]
       show _=if m.length≤256 then famI i (i - (k + 1)) (k + 1) (famK m i k) else m
       rw [if_pos (by omega)]
      ·simp only [e]
       first | exact eN | refine eM ?_
      ·simp only [e]
       first | exact eN | refine eM ?_
     ·omega
     ·have e:famK m i k=m:=by
       unfold famK
       rw [if_neg]
       rw [Bool.and_eq_true,decide_eq_true_eq,Bool.not_eq_true']
       intro h
       rw [hcond h.1] at h
       exact absurd h.2 (by simp)
      refine ⟨⟨(k + 1,m),by simp only;omega,⟨hml,hmw⟩,hlm,?_⟩,by simp only;omega,ent_match [(7,.nm 7)] rfl rfl ?_ ?_⟩
      ·simp only
       rw [← hf,show i - k=(i - (k + 1)) + 1 by omega]
       show _=if m.length≤256 then famI i (i - (k + 1)) (k + 1) (famK m i k) else m
       rw [if_pos (by omega),e]
      ·first | exact eN | refine eM ?_
      ·first | exact eN | refine eM ?_
     ·omega
     ·have hm2:m=famI i i 0 l:=by
       rw [← hf]
       cases hm:i - k with
       | zero=>rfl
       | succ j =>
        show _=if m.length≤256 then _ else m
        rw [if_neg (by omega)]
      rw [← hm2] at hg2
      refine ⟨⟨(i + 1,m),by simp only;omega,⟨hml,hmw⟩,?_⟩,by simp only;omega,ent_match [(7,.nm 7)] rfl rfl ?_ ?_⟩
      ·simp only
       rw [show 257 - (i + 1)=256 - i by omega]
       exact hg2
      ·first | exact eN | refine eM ?_
      ·first | exact eN | refine eM ?_
   ·have hgl:l=familyF c:=by
     rw [← hg]
     cases hm:257 - i with
     | zero=>rfl
     | succ m =>
      show _=if i < l.length∧l.length≤256 then _ else l
      rw [if_neg (by omega)]
    rw [← hgl]
    refine frzE [7] ?_
    exact ev_fin hc [.tmp 2] rfl (.inl rfl) (by simp) (by first | exact eR | refine eRM ?_)
theorem cs0 {α:Type} (x y:α):(if ({ data:=#[] }:ByteArray).size≤maxN then x else y)=x:=if_pos (by show 0≤maxN;decide)
theorem cs1 {α:Type} (a:UInt8) (x y:α):(if ({ data:=#[a] }:ByteArray).size≤maxN then x else y)=x:=if_pos (by show 1≤maxN;decide)
theorem cs2 {α:Type} (a b:UInt8) (x y:α):(if ({ data:=#[a,b] }:ByteArray).size≤maxN then x else y)=x:=if_pos (by show 2≤maxN;decide)
theorem cs3 {α:Type} (a b c:UInt8) (x y:α):(if ({ data:=#[a,b,c] }:ByteArray).size≤maxN then x else y)=x:=if_pos (by show 3≤maxN;decide)
theorem cs4 {α:Type} (a b c d:UInt8) (x y:α):(if ({ data:=#[a,b,c,d] }:ByteArray).size≤maxN then x else y)=x:=if_pos (by show 4≤maxN;decide)
theorem cs5 {α:Type} (a b c d e:UInt8) (x y:α):(if ({ data:=#[a,b,c,d,e] }:ByteArray).size≤maxN then x else y)=x:=if_pos (by show 5≤maxN;decide)
theorem cs6 {α:Type} (a b c d e f:UInt8) (x y:α):(if ({ data:=#[a,b,c,d,e,f] }:ByteArray).size≤maxN then x else y)=x:=if_pos (by show 6≤maxN;decide)
theorem cs7 {α:Type} (a b c d e f g:UInt8) (x y:α):(if ({ data:=#[a,b,c,d,e,f,g] }:ByteArray).size≤maxN then x else y)=x:=if_pos (by show 7≤maxN;decide)
theorem cs8 {α:Type} (a b c d e f g h:UInt8) (x y:α):(if ({ data:=#[a,b,c,d,e,f,g,h] }:ByteArray).size≤maxN then x else y)=x:=if_pos (by show 8≤maxN;decide)
end
/- Plain: the bits of the codes. -/
section
def bitN (b:List Int) (i:Nat):Bool:=(b.getD (i / 64) 0).toNat.testBit (i % 64)
def U64 (x:Int):Prop:=0≤x∧x < 18446744073709551616
theorem ofInt_nat {x:Int} (h:U64 x):(BitVec.ofInt 64 x).toNat=x.toNat:=by
 rw [BitVec.toNat_ofInt]
 have h1:=h.1
 have h2:=h.2
 rw [Int.emod_eq_of_lt h1 (by simpa using h2)]
theorem wrap_nat {n:Nat} (h:n < 18446744073709551616):IntKind.u64.wrap (n:Int)=n:=wrap_in (by rw [inK_u64];omega)
theorem or_bits {x y:Int} (hx:U64 x) (hy:U64 y):bitsV .or .u64 x y=((x.toNat ||| y.toNat:Nat):Int):=by
 have h1:(BitVec.ofInt IntKind.u64.bits x ||| BitVec.ofInt IntKind.u64.bits y).toNat=x.toNat ||| y.toNat:=by
  rw [BitVec.toNat_or]
  show (BitVec.ofInt 64 x).toNat ||| (BitVec.ofInt 64 y).toNat=_
  rw [ofInt_nat hx,ofInt_nat hy]
 unfold bitsV
 simp only
 rw [h1]
 have e:(18446744073709551616:Nat)=2 ^ 64:=by decide
 refine wrap_nat ?_
 rw [e]
 refine Nat.or_lt_two_pow ?_ ?_
 ·have:=hx.2;have:=hx.1;omega
 ·have:=hy.2;have:=hy.1;omega
theorem and_bits {x y:Int} (hx:U64 x) (hy:U64 y):bitsV .and .u64 x y=((x.toNat &&& y.toNat:Nat):Int):=by
 have h1:(BitVec.ofInt IntKind.u64.bits x &&& BitVec.ofInt IntKind.u64.bits y).toNat=x.toNat &&& y.toNat:=by
  rw [BitVec.toNat_and]
  show (BitVec.ofInt 64 x).toNat &&& (BitVec.ofInt 64 y).toNat=_
  rw [ofInt_nat hx,ofInt_nat hy]
 unfold bitsV
 simp only
 rw [h1]
 refine wrap_nat (Nat.lt_of_le_of_lt Nat.and_le_left ?_)
 have:=hx.2;have:=hx.1;omega
theorem andNot_eq {x y:Int}:bitsV .andNot .u64 x y=((BitVec.ofInt 64 x &&& ~~~BitVec.ofInt 64 y).toNat:Int):=by
 show IntKind.u64.wrap ((BitVec.ofInt 64 x &&& ~~~BitVec.ofInt 64 y).toNat:Int)=_
 exact wrap_nat (BitVec.isLt _)
theorem andNot_bits {x y:Int} (hx:U64 x) (hy:U64 y) (h:bitsV .andNot .u64 x y=0) {r:Nat} (hr:r < 64) (hb:x.toNat.testBit r=true):y.toNat.testBit r=true:=by
 rw [andNot_eq] at h
 have h1:(BitVec.ofInt 64 x &&& ~~~BitVec.ofInt 64 y).toNat=0:=by omega
 have h2:(BitVec.ofInt 64 x &&& ~~~BitVec.ofInt 64 y).toNat.testBit r=false:=by rw [h1];exact Nat.zero_testBit r
 rw [BitVec.testBit_toNat,BitVec.getLsbD_and,BitVec.getLsbD_not,← BitVec.testBit_toNat,← BitVec.testBit_toNat,ofInt_nat hx,ofInt_nat hy,hb] at h2
 simpa [hr] using h2
theorem andNot_self {x:Int}:bitsV .andNot .u64 x x=0:=by
 rw [andNot_eq]
 simp
theorem normN_zero {b:List Int}:∀ {n:Nat},∀ k,normN b n≤k→k < n→b.getD k 0=0
 | 0,k,_,h=>by omega
 | n + 1,k,h1,h2=>by
  unfold normN at h1
  split at h1
  ·rename_i hz
   by_cases hk:k=n
   ·rw [hk];exact hz
   ·exact normN_zero k h1 (by omega)
  ·omega
theorem normalF_getD (b:List Int) (k:Nat):(normalF b).getD k 0=b.getD k 0:=by
 unfold normalF
 by_cases h:k < normN b b.length
 ·simp [List.getD_eq_getElem?_getD,List.getElem?_take,h]
 ·have h1:(List.take (normN b b.length) b).getD k 0=0:=by
   rw [List.getD_eq_getElem?_getD,List.getElem?_take,if_neg h];rfl
  rw [h1]
  by_cases h2:k < b.length
  ·exact (normN_zero k (by omega) h2).symm
  ·rw [List.getD_eq_getElem?_getD,List.getElem?_eq_none (by omega)];rfl
theorem bit_normal (b:List Int) (i:Nat):bitN (normalF b) i=bitN b i:=by unfold bitN;rw [normalF_getD]
def Wds (b:List Int):Prop:=∀ x∈b,U64 x
theorem getD_U64 {b:List Int} (h:Wds b) (k:Nat):U64 (b.getD k 0):=by
 rw [List.getD_eq_getElem?_getD]
 cases hh:b[k]? with
 | none=>exact ⟨by simp,by simp⟩
 | some x=>exact h x (List.mem_of_getElem? hh)
theorem normal_wds {b:List Int} (h:Wds b):Wds (normalF b):=fun x hx=>h x (List.mem_of_mem_take hx)
theorem wordF_nat (b:List Int) (k:Nat):wordF b (k:Int)=b.getD k 0:=by
 unfold wordF
 split
 ·simp
 ·rename_i h
  rw [List.getD_eq_getElem?_getD,List.getElem?_eq_none (by omega)];rfl
theorem zipL_getD (op:BinOp) (a b:List Int) {n k:Nat} (h:k < n):(zipL op a b n).getD k 0=bitsV op .u64 (a.getD k 0) (b.getD k 0):=by
 unfold zipL
 rw [List.getD_eq_getElem?_getD,List.getElem?_map,List.getElem?_range h]
 show bitsV op .u64 (a.getD k 0) (wordF b (k:Int))=_
 rw [wordF_nat]
theorem subset_words {a b:List Int} (h:subsetF a b=true) {k:Nat} (hk:k < a.length):bitsV .andNot .u64 (a.getD k 0) (b.getD k 0)=0:=by
 unfold subsetF minusF normalF at h
 have h1:(List.take (normN (zipL .andNot a b a.length) (zipL .andNot a b a.length).length) (zipL .andNot a b a.length)).length=0:=by
  have:=beq_iff_eq.1 h
  omega
 rw [List.length_take,zipL_len] at h1
 have h2:=normN_le (zipL .andNot a b a.length) a.length
 have h3:=normN_zero (b:=zipL .andNot a b a.length) (n:=a.length) k (by omega) hk
 rw [zipL_getD _ _ _ hk] at h3
 exact h3
theorem subset_bits {a b:List Int} (ha:Wds a) (hb:Wds b) (h:subsetF a b=true) {i:Nat} (hi:bitN a i=true):bitN b i=true:=by
 by_cases hk:i / 64 < a.length
 ·exact andNot_bits (getD_U64 ha _) (getD_U64 hb _) (subset_words h hk) (Nat.mod_lt _ (by decide)) hi
 ·exfalso
  unfold bitN at hi
  rw [List.getD_eq_getElem?_getD,List.getElem?_eq_none (by omega)] at hi
  simp at hi
theorem normN_all {b:List Int}:∀ {n:Nat},(∀ k,k < n→b.getD k 0=0)→normN b n=0
 | 0,_=>rfl
 | n + 1,h=>by
  unfold normN
  rw [if_pos (h n (by omega))]
  exact normN_all fun k hk=>h k (by omega)
theorem subset_refl (a:List Int):subsetF a a=true:=by
 unfold subsetF minusF normalF
 have h1:normN (zipL .andNot a a a.length) (zipL .andNot a a a.length).length=0:=by
  rw [zipL_len]
  exact normN_all fun k hk=>by rw [zipL_getD _ _ _ hk];exact andNot_self
 rw [h1]
 rfl
theorem equalB_refl (a:List Int):equalBF a a=true:=by unfold equalBF;rw [subset_refl];rfl
theorem ofA_bit {b:List Int} (hb:Wds b) (hl:b.length=64) {x:Int} (h0:0≤x) (h1:x≤4095) (i:Nat):bitN (ofA b x) i=(bitN b i || decide (x=(i:Int))):=by
 have e1:Int.tdiv x 64=x / 64:=Int.tdiv_eq_ediv_of_nonneg h0
 have e2:Int.tmod x 64=x % 64:=Int.tmod_eq_emod_of_nonneg h0
 obtain ⟨n,rfl⟩:∃ n:Nat,x=(n:Int):=⟨x.toNat,by omega⟩
 have hs:shlV .u64 1 ((n:Int) % 64)=((2 ^ (n % 64):Nat):Int):=by
  unfold shlV
  have e3:min ((n:Int) % 64).toNat IntKind.u64.bits=n % 64:=by
   have:((n:Int) % 64).toNat=n % 64:=by omega
   rw [this]
   have:IntKind.u64.bits=64:=rfl
   omega
  rw [e3,Int.one_mul]
  have:(2:Int) ^ (n % 64)=((2 ^ (n % 64):Nat):Int):=by simp
  rw [this]
  refine wrap_nat ?_
  have h3:(2:Nat) ^ (n % 64) < 2 ^ 64:=Nat.pow_lt_pow_right (by decide) (Nat.mod_lt _ (by decide))
  exact h3
 have hu:U64 (shlV .u64 1 ((n:Int) % 64)):=by
  rw [hs]
  have h3:(2:Nat) ^ (n % 64) < 2 ^ 64:=Nat.pow_lt_pow_right (by decide) (Nat.mod_lt _ (by decide))
  have h4:(2:Nat) ^ 64=18446744073709551616:=by decide
  refine ⟨Int.natCast_nonneg _,?_⟩
  rw [h4] at h3
  exact Int.ofNat_lt.2 h3
 have hn:((n:Int) / 64).toNat=n / 64:=by omega
 unfold ofA bitN
 rw [e1,e2,hn]
 by_cases hd:i / 64=n / 64
 ·have hlt:n / 64 < b.length:=by omega
  rw [hd]
  have:(b.set (n / 64) (bitsV .or .u64 (b.getD (n / 64) 0) (shlV .u64 1 ((n:Int) % 64)))).getD (n / 64) 0=bitsV .or .u64 (b.getD (n / 64) 0) (shlV .u64 1 ((n:Int) % 64)):=by
   simp [List.getD_eq_getElem?_getD,hlt]
  rw [this,or_bits (getD_U64 hb _) hu,hs]
  simp only [Int.toNat_natCast,Nat.testBit_or,Nat.testBit_two_pow]
  congr 1
  rw [decide_eq_decide]
  omega
 ·have:(b.set (n / 64) (bitsV .or .u64 (b.getD (n / 64) 0) (shlV .u64 1 ((n:Int) % 64)))).getD (i / 64) 0=b.getD (i / 64) 0:=by
   simp [List.getD_eq_getElem?_getD,List.getElem?_set,Ne.symm hd]
  rw [this]
  have:decide ((n:Int)=(i:Int))=false:=by
   rw [decide_eq_false_iff_not]
   intro h
   exact hd (by omega)
  rw [this,Bool.or_false]
theorem ofA_wds {b:List Int} (hb:Wds b) (x:Int):Wds (ofA b x):=by
 intro y hy
 unfold ofA at hy
 rcases List.mem_or_eq_of_mem_set hy with h | h
 ·exact hb y h
 ·rw [h]
  have:=in_wrap .u64 ((BitVec.ofInt IntKind.u64.bits (b.getD (x.tdiv 64).toNat 0) ||| BitVec.ofInt IntKind.u64.bits (shlV .u64 1 (x.tmod 64))).toNat:Int)
  rw [inK_u64] at this
  exact ⟨this.1,by have:=this.2;show _ < _;exact Int.lt_of_le_of_lt this (by decide)⟩
theorem ofL_bit {l:List Int} (h:l.all okB=true) (i:Nat):bitN (ofL l) i=decide ((i:Int)∈l)∧Wds (ofL l):=by
 have key:∀ (l b:List Int),l.all okB=true→Wds b→b.length=64→bitN (l.foldl ofA b) i=(bitN b i || decide ((i:Int)∈l))∧Wds (l.foldl ofA b):=by
  intro l
  induction l with
  | nil=>intro b _ hb _;simp [hb]
  | cons x l ih =>
   intro b ho hb hl
   rw [List.all_cons,Bool.and_eq_true] at ho
   have hx:=ho.1
   unfold okB at hx
   rw [Bool.not_eq_true',Bool.or_eq_false_iff,decide_eq_false_iff_not,decide_eq_false_iff_not] at hx
   obtain ⟨g1,g2⟩:=ih (ofA b x) ho.2 (ofA_wds hb x) (by simp [ofA,hl])
   rw [List.foldl_cons]
   refine ⟨?_,g2⟩
   rw [g1,ofA_bit hb hl (by omega) (by omega),Bool.or_assoc]
   congr 1
   rw [← Bool.decide_or,decide_eq_decide,List.mem_cons,eq_comm]
 have h2:Wds (List.replicate 64 (0:Int)):=by
  intro y hy
  rw [(List.mem_replicate.1 hy).2]
  exact ⟨by decide,by decide⟩
 have h1:=key l (List.replicate 64 0) h h2 (by simp)
 refine ⟨?_,h1.2⟩
 unfold ofL
 rw [h1.1]
 have:bitN (List.replicate 64 (0:Int)) i=false:=by
  unfold bitN
  have:(List.replicate 64 (0:Int)).getD (i / 64) 0=0:=by
   rw [List.getD_eq_getElem?_getD,List.getElem?_replicate]
   split<;>rfl
  rw [this]
  simp
 rw [this,Bool.false_or]
theorem selG_mem {low all:List ByteArray} {n i:Nat}:((i:Int)∈selG low all n)↔i < n∧amongF low (all.getD i ByteArray.empty)=true:=by
 unfold selG
 rw [List.mem_map]
 constructor
 ·rintro ⟨j,hj,e⟩
  have:j=i:=by omega
  subst this
  rw [List.mem_filter,List.mem_range] at hj
  exact hj
 ·rintro ⟨h1,h2⟩
  exact ⟨i,by rw [List.mem_filter,List.mem_range];exact ⟨h1,h2⟩,rfl⟩
theorem selG_ok {low all:List ByteArray} {n:Nat} (hn:n≤4096):(selG low all n).all okB=true:=by
 rw [List.all_eq_true]
 intro x hx
 unfold selG at hx
 obtain ⟨j,hj,rfl⟩:=List.mem_map.1 hx
 rw [List.mem_filter,List.mem_range] at hj
 unfold okB
 rw [Bool.not_eq_true',Bool.or_eq_false_iff,decide_eq_false_iff_not,decide_eq_false_iff_not]
 exact ⟨by omega,by omega⟩
theorem code_bit {d:List DeclD} {all:List ByteArray} (hl:all.length≤4096) (s:ByteArray) (i:Nat):(bitN (codeF d all s) i=true↔i < all.length∧amongF (belowF d s) (all.getD i ByteArray.empty)=true)∧Wds (codeF d all s)∧(codeF d all s).length≤64:=by
 have h1:=selG_ok (low:=belowF d s) (all:=all) hl
 have h2:=ofL_bit h1 i
 have h3:codeF d all s=normalF (ofL (selG (belowF d s) all all.length)):=by
  unfold codeF ofF
  rw [if_pos h1]
 refine ⟨?_,?_,?_⟩
 ·rw [h3,bit_normal,h2.1,decide_eq_true_eq,selG_mem]
 ·rw [h3];exact normal_wds h2.2
 ·rw [h3]
  unfold normalF
  have:=ofL_len (selG (belowF d s) all all.length)
  rw [List.length_take]
  omega
end
end Go.Proofs.YtebfihindnhccaaGreat.Fw
