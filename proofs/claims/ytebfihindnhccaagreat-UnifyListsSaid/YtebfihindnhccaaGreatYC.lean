/- Contracts of the program's and the reference's functions, and the plain laws of what they compute: U2 U3 U4 U5 U6 U7 U8 V9 U9 U10 N7 U11 U12 N8 V10 V11 V7 V8 U14 C37 W6 W7 U17. -/
/- Functions of unify.classes: find, add. -/
import Derived.Test.YtebfihindnhccaaGreatYB
import Derived.Test.YtebfihindnhccaaGreatZI
import Derived.Test.YtebfihindnhccaaGreatYA
set_option linter.unusedVariables false
set_option linter.unusedSimpArgs false
namespace Go.Proofs.YtebfihindnhccaaGreat.Fw
open Go
attribute [local irreducible] Ev
attribute [local go_sem] cx_tb entEnv List.toList_toArray evSeq evG evK vcK guardOf guardT guardB_true guardB_false step1 step0 stepQ takesIn namesParts namesOf namesStore frzAll frz frz1 fixN frzEnv frzObjs drpEnv drpObjs AV.frz AV.frzs AV.drp AV.drps AV.names AV.namess aq qmap qPick qAlloc qBox qBuild qBuildSlice qBuildSlice2 qLoad qLoadB qLoadB2 qLoadE qLoadE2 qLoadE3 qFieldI qOff qPart qField qIndexA qIndex qIndexS qNil qBin qUn qConv qMake qMake2 qSlice qExtract qLen qAppend qAppend2 qAppend3 qMin qMax qCall qCall2 qCall3 qBuiltin qCallee aloud lStoreD lStore lStoreB lStoreB2 lStoreE lStoreE3 lStoreE4 namesStore isNest asA ninT qLoadN qBuildS qNest1 qNest2 qNest3 lNin2 lNin3 lNin4 lBackS lBack2 lBack3 lJoin lJoin2 lJoin3 lNew lNew2 lNew3 AV.trn AV.trns trnEnv trnObjs Obj.trn appN2 stoN lCallee lBuiltin lAppend lAppend2 lAppend3 lAppend4 opv lk constAV optAV sliceQ bin binI binS binB boolT zf1 zfs pfs AV.cells nthOff loadB offB storeB notAg fitsT fitsO Ty.cell1 fieldOk partsT partsAg argsT asT asT1 asTs pairO srT castTo_self getF setF getP setP offP offF fldT rvAV rvObj rvAVs rvObjs resAV RV.flat Ty.flat Ty.size St.add upd del fresh Value.oneCell' refZ Ty.dflt sub_all sub_one sub_take sub_end List.take_succ_cons List.take_zero List.length_cons cast0 castS sub_app take_app sub_app1 take_app1 take_one1 natC zero_le_natC i64_min i64_max u64_min u64_max u8_min u8_max inK_i64 inK_u64 inK_u8 Option.map_some Option.map_none Option.bind_some Option.getD_some Option.getD_none Option.isNone_none Option.isNone_some Bool.and_true Bool.true_and Bool.and_false Bool.false_and Bool.not_true Bool.not_false if_true if_false List.length_cons List.length_nil and_true true_and and_self List.all_cons List.all_nil List.append_nil List.nil_append List.cons_append List.getElem?_cons_zero List.getElem?_cons_succ List.getElem?_nil List.map_cons List.map_nil List.set_cons_zero List.set_cons_succ List.isEmpty_nil List.isEmpty_cons decide_true decide_false beq_self_eq_true bne_self_eq_false Nat.zero_add Nat.add_zero Nat.sub_zero Int.toNat_natCast Int.toNat_zero Int.toNat_one List.take_length List.length_append List.length_singleton true_or or_true or_self false_or or_false Ty.agg.injEq Ty.slice.injEq Ty.prod.injEq Ty.int.injEq Option.some.injEq beq_iff_eq evM evMG evMQ opM isPick viewE viewS viewG opTs opTmp consE guardM guardM1 guardM2 sideM sideM2 pickM pickM2 sufB chEq_nil chEq_nc chEq_cn chEq_cons memB dstOf Op.operands Call.operands List.filterMap_cons List.filterMap_nil List.append_eq Bool.cond_false_right Bool.cond_true_left cond_true cond_false implies_true decide_eq_true_eq beq_true beq_false Bool.or_true Bool.or_false Bool.true_or Bool.false_or Option.isSome_some fieldV namesAg namesAgs capNs qClo qClo2 qMakeMap qMakeMap2 qMakeMap3 qLook qLook2 qLook3 qLook4 keyT keyP eqT inB lMapUp lMapUp2 lMapUp3 namesMap argEnv cm_tb List.drop_zero pruneR prune rem1 afterM addDst fgtEnv AV.fgt AV.fgts Obj.fgt restObjs handed memB calleeOf opvs matchArgs matchArg List.any_cons List.any_nil evF evFO evFQ evFK addQ frOk qs List.flatMap_cons List.flatMap_nil List.cons_append tn appN fgtEN List.take_succ_cons List.drop_succ_cons isYl parEnv rangeSt cY_tb marked_tb renOk renIn matchObjs matchEnv matchE matchAV matchAVs matchF matchO pureT
attribute [local go_sem] ty1 ty2 ty3 ty4 ty5 ty9 ty12 ty21 ty22 ty23 ty24 ty25 ty26 ty27 ty28 ty29 ty30 ty31 ty32 ty34 ty35 ty36 ty37 ty38 ty39 ty40 ty41 ty42 ty43 ty44 ty45 ty46 ty47 ty48 ty49 ty50 ty51 ty52 ty53 ty54 ty55 ty56 ty57 ty58 ty59 ty60 ty61 ty62 ty63 ty64 ty65 ty66 ty67 ty68 ty69 ty70 ty71 ty72 ty73 ty74 ty75 ty76 ty77 ty78 ty79 ty81 ty82 ty83 ty84 ty85 ty86 ty87 ty88 ty89 ty90 ty91 ty92 ty93 ty94 ty95 ty96 ty97 ty98 ty99 ty100 ty102 ty103 ty104 ty105 ty106 ty107 ty108 ty110 ty112 ty113 ty114 ty115 ty116 ty117 ty118 ty119 ty120 ty121 ty122 ty123 ty124 ty125 ty126 ty127 ty128 ty129 ty130 ty131 ty132 ty133 ty134 ty135 ty137 ty138 ty140 ty141 ty142 ty143 ty144 ty145 ty146 ty147 ty148 ty150 ty151 ty152 ty153 ty154 ty155 ty156 ty157 ty158 ty159 ty160 ty161 ty162 ty163 ty165 ty166 ty167 ty168 ty169 ty170 ty171 ty172 ty173 ty174 ty175 ty176 ty177 ty178 ty179 ty180 ty181 ty182 ty183 ty184 ty185 ty187 ty188 ty189 ty190 ty191 ty192 ty193 ty194 ty195 ty196 ty198 ty199 ty200 ty201 ty202 ty203 ty204 ty205 ty206 ty207 ty208 ty209 ty210 ty211 ty212 ty213 ty214 ty216 ty217 ty218 ty219 ty220 ty221 ty222 ty223 ty224 ty225 ty226 ty227 ty228 ty229 ty230 ty231 ty232 ty233 ty234 ty235 ty236 ty237 ty239 ty240 ty241 ty242 ty243 ty244 ty245 ty246 ty247 ty248 ty249 ty250 ty251 ty252 ty253 ty254 ty255 ty256 ty257 ty258 ty259 ty260 ty262 ty263 ty264 ty265 ty266 ty267 ty268 ty269 ty270 ty271 ty272 ty273 ty274 ty275 ty276 ty277 ty283 ty286 ty287
set_option maxRecDepth 100000
set_option maxHeartbeats 4000000
section
def clO (h:HierD) (p ty:List Int) (ar:List (List (Int×Int))):List (Nat×Obj):=[(1,.box 94 true [.p T29 h,.sr 2 T3 0 p.length,.sr 3 T3 0 ty.length,.sr 4 T86 0 ar.length]),(2,.arr 3 T3 p),(3,.arr 3 T3 ty),(4,.arr 86 T86 ar)]
theorem find_ok (h:HierD) (ty:List Int) (ar:List (List (Int×Int))) (rk:Int→Nat) {p:List Int} (hp:Fo p rk) {n:Int} (h0:0≤n) (h1:n < (p.length:Int)):CallM Tryz.prog 102 [.bp 1 [] 0,.p T3 n] (clO h p ty ar) [1]
  (fun res objs'=>∃ (p':List Int) (r:Int),res=.p T3 r∧objs'=clO h p' ty ar∧Fo p' rk∧SameRt p p'∧Rt p n r):=by
 refine fnM_ok Tryz.func102 (by kernel_rfl) rfl Tryz.ntmps102 (by simp only [List.length_cons,List.length_nil];omega) (by kernel_rfl) rfl rfl (tyTab_ok []) fns_nil ?_
 intro w0 K O0 ρ0 hc hok1 hok2
 simp only [argEnv,clO]
 repeat' (first | exact trivial | refine eS rfl ?_ | refine ev_out_inv ?_ | refine rX [0,1,4,13] hc ?_ ?_ | (refine rC (fun hcond=>?_) (fun hcond=>?_)<;>try (cases hcond;done)))
 refine ev_loop (ι:={x:List Int×Int // Fo x.1 rk∧SameRt p x.1∧0≤x.2∧x.2 < (p.length:Int)∧(∀ r,Rt x.1 x.2 r→Rt p n r)}) (fun x=>⟨[(0,.bp 1 [] 0),(1,.p T3 x.1.2)],[(1,.box 94 true [.p T29 h,.sr 2 T3 0 p.length,.sr 3 T3 0 ty.length,.sr 4 T86 0 ar.length]),(2,.arr 3 T3 x.1.1),(3,.arr 3 T3 ty),(4,.arr 86 T86 ar)]⟩) (fun x=>rk x.1.2) ⟨(p,n),hp,SameRt.refl p,h0,h1,fun _ g=>g⟩ (ent_match [(1,.nm 1),(2,.nm 2),(3,.nm 3),(4,.nm 4)] rfl rfl ?_ ?_) (fun x=>?_)
 ·first | exact eN | refine eM ?_
 ·first | exact eN | refine eM ?_
 ·obtain ⟨⟨q,m⟩,hq,hs,m0,m1,hrt⟩:=x
  simp only at hq hs m0 m1 hrt
  have hql:q.length=p.length:=hs.1.symm
  have hr:=hq.rng m m0 (by omega)
  simp only
  repeat' (first | exact trivial | refine eS rfl ?_ | refine ev_out_inv ?_ | refine rX [0,1,4,13] hc ?_ ?_ | (refine rC (fun hcond=>?_) (fun hcond=>?_)<;>try (cases hcond;done)))
  ·exact ⟨m0,m1⟩
  ·exact ⟨⟨m0,m1⟩,⟨hr.1,by rw [← hql];exact hr.2⟩,m0,m1⟩
  ·exact ⟨m0,m1⟩
  ·have hne:par q m≠m:=hcond
   have hd:=hq.dec m m0 (by omega) hne
   have hr2:=hq.rng _ hr.1 hr.2
   have hd2:rk (par q (par q m))≤rk (par q m):=by
    by_cases e:par q (par q m)=par q m
    ·rw [e];exact Nat.le_refl _
    ·exact Nat.le_of_lt (hq.dec _ hr.1 hr.2 e)
   have hsm:=halve_same hq m0 (by omega) hne
   have hpm:par (halve q m) m=par q (par q m):=by
    unfold halve
    rw [par_set m0 (by omega) m m0,if_pos rfl]
   refine ⟨⟨(halve q m,par q (par q m)),halve_fo hq m0 (by omega) hne,hs.trans hsm,hr2.1,by rw [← hql];exact hr2.2,fun r hr3=>hrt r ?_⟩,by simp only;omega,ent_match [(1,.nm 1),(2,.nm 2),(3,.nm 3),(4,.nm 4)] rfl rfl ?_ ?_⟩
   ·refine (hsm.2 m r m0 (by omega)).2 (.step ?_ ?_)
    ·rw [hpm]
     intro e
     rw [e] at hd2
     omega
    ·rw [hpm]
     exact hr3
   ·first | exact eN | refine eM ?_
    rfl
   ·first | exact eN | refine eM ?_
    exact hpm
  ·have he:par q m=m:=by simpa using hcond
   refine Ev.ent (σ':=⟨[(4,.p T3 m)],clO h q ty ar⟩) ?_ (ent_match [(1,.nm 1),(2,.nm 2),(3,.nm 3),(4,.nm 4)] rfl rfl ?_ ?_)
   ·exact ev_finM hc [.tmp 4] rfl (.inl rfl) (.p T3 m) eT ⟨q,m,rfl,rfl,hq,hs,hrt m (.base he)⟩
   ·unfold clO
    rw [hql]
    first | exact eN | refine eM ?_
   ·first | exact eN | refine eM ?_
end
/- Functions of unify.classes: add. -/
section
def numsG (b n:Nat):List Int:=(List.range n).map fun i=>((b + i:Nat):Int)
def shiftA (b:Nat) (l:List (Int×Int)):List (Int×Int):=l.map fun a=>(a.1,a.2 + (b:Int))
def typesG (l:List GNode) (n:Nat):List Int:=(l.take n).map fun x=>x.1
def arcsU (b:Nat) (l:List GNode) (n:Nat):List (List (Int×Int)):=(l.take n).map fun x=>shiftA b x.2
theorem numsG_succ (b n:Nat):numsG b (n + 1)=numsG b n++[((b + n:Nat):Int)]:=by simp [numsG,List.range_succ]
theorem numsG_len (b n:Nat):(numsG b n).length=n:=by simp [numsG]
theorem add_ok (h:HierD) (p ty:List Int) (ar:List (List (Int×Int))) (l:List GNode) (hl:GoodF l) (hpl:p.length≤100000) (htl:ty.length=p.length) (hal:ar.length=p.length) :
  CallM Tryz.prog 60 [.bp 1 [] 0,.p T23 l] (clO h p ty ar) [1]
  (fun res objs'=>res=.raw (.tuple #[])∧objs'=clO h (p++numsG p.length l.length) (ty++typesG l l.length) (ar++arcsU p.length l l.length)):=by
 refine fnM_ok Tryz.func60 (by kernel_rfl) rfl Tryz.ntmps60 (by simp only [List.length_cons,List.length_nil];omega) (by kernel_rfl) rfl rfl (tyTab_ok []) fns_nil ?_
 intro w0 K O0 ρ0 hc hok1 hok2
 have hll:=hl.1
 simp only [argEnv,clO]
 repeat' (first | exact trivial | refine eS rfl ?_ | refine ev_out_inv ?_ | refine rX [0,1,4,5,6,7,9,15,16,17,18,46,47,48,49] hc ?_ ?_ | (refine rC (fun hcond=>?_) (fun hcond=>?_)<;>try (cases hcond;done)))
 refine ev_loop (ι:={i:Nat // i≤l.length}) (fun i=>⟨[(0,.bp 1 [] 0),(4,.p (.int .i64) (p.length:Int)),(15,.p T23 l),(16,.p (.int .i64) (l.length:Int)),(17,.p (.int .i64) (i.1:Int))],[(1,.box 94 true [.p T29 h,.sr 2 T3 0 (p++numsG p.length i.1).length,.sr 3 T3 0 (ty++typesG l i.1).length,.sr 4 T86 0 (ar++arcsU p.length l i.1).length]),(2,.arr 3 T3 (p++numsG p.length i.1)),(3,.arr 3 T3 (ty++typesG l i.1)),(4,.arr 86 T86 (ar++arcsU p.length l i.1))]⟩) (fun i=>l.length - i.1) ⟨0,Nat.zero_le _⟩ (ent_match [(1,.nm 1),(2,.nm 2),(3,.nm 3),(4,.nm 4)] rfl rfl ?_ ?_) (fun i=>?_)
 ·first | exact eN | refine eM ?_
  simp [numsG,typesG,arcsU]
 ·first | exact eN | refine eM ?_
 ·obtain ⟨i,hi⟩:=i
  have hnl:=numsG_len p.length i
  have hns:=numsG_succ p.length i
  have htl2:(typesG l i).length=i:=by unfold typesG;rw [List.length_map,List.length_take];omega
  have hal2:(arcsU p.length l i).length=i:=by unfold arcsU;rw [List.length_map,List.length_take];omega
  have hts:=fun h:i < l.length=>map_take_succ (fun x:GNode=>x.1) l (0,[]) h
  have has:=fun h:i < l.length=>map_take_succ (fun x:GNode=>shiftA p.length x.2) l (0,[]) h
  simp only
  repeat' (first | exact trivial | refine eS rfl ?_ | refine ev_out_inv ?_ | refine rX [0,1,4,5,6,7,9,15,16,17,18,46,47,48,49] hc ?_ ?_ | (refine rC (fun hcond=>?_) (fun hcond=>?_)<;>try (cases hcond;done)))
  ·exact hcond
  ·refine ⟨⟨by omega,by omega⟩,?_⟩
   rw [hnl]
   simp only [maxN]
   omega
  ·have hi2:i < l.length:=Int.ofNat_lt.1 hcond
   refine ev_mix drawsAny hc 9 [([1,2,3,4,5,6,7],8)] [0] (by kernel_rfl) (mxA ?_ ?_)
   ·trivial
   ·refine mxL hc [3] ?_ ?_
    ·rw [htl2]
     simp only [maxN]
     omega
    ·refine mxE [0,1,4,5,6,7,9,15,16,17,18,46,47,48,49] hc ?_ ?_ ?_
     ·trivial
     ·trivial
     ·have hts2:=hts hi2
      have has2:=has hi2
      have eP:p++numsG p.length i++[(p.length:Int) + (i:Int)]=p++numsG p.length (i + 1):=by
       rw [hns,List.append_assoc]
       rfl
      have eT:ty++typesG l i++[(l.getD i (0,[])).1]=ty++typesG l (i + 1):=by
       unfold typesG
       rw [hts2,List.append_assoc]
      have lP:p.length + (numsG p.length i).length + 1=(p++numsG p.length (i + 1)).length:=by rw [List.length_append,numsG_len,numsG_len];omega
      have lT:ty.length + (typesG l i).length + 1=(ty++typesG l (i + 1)).length:=by rw [← eT,List.length_append,List.length_append,List.length_singleton]
      have hrng:=node_rng hl i
      have hxl:(l.getD i (0,[])).2.length≤100000:=(hl.2 _ (mem_of_take_succ l (0,[]) hi2)).1
      repeat' (first | exact trivial | refine eS rfl ?_ | refine ev_out_inv ?_ | refine rX [0,1,4,5,6,7,9,15,16,17,18,46,47,48,49] hc ?_ ?_ | (refine rC (fun hcond=>?_) (fun hcond=>?_)<;>try (cases hcond;done)))
      rw [eP,eT,lP,lT]
      generalize hxd:(l.getD i (0,[])).2=xs at *
      refine ev_loop (ι:={k:Nat // k≤xs.length}) (fun k=>⟨[(0,.bp 1 [] 0),(4,.p (.int .i64) (p.length:Int)),(7,.sr 61 T108 0 (shiftA p.length (xs.take k.1)).length),(15,.p T23 l),(16,.p (.int .i64) (l.length:Int)),(17,.p (.int .i64) (i:Int)),(46,.p T86 xs),(47,.p (.int .i64) (xs.length:Int)),(48,.p (.int .i64) (k.1:Int))],[(1,.box 94 true [.p T29 h,.sr 2 T3 0 (p++numsG p.length (i + 1)).length,.sr 3 T3 0 (ty++typesG l (i + 1)).length,.sr 4 T86 0 (ar++arcsU p.length l i).length]),(2,.arr 3 T3 (p++numsG p.length (i + 1))),(3,.arr 3 T3 (ty++typesG l (i + 1))),(4,.arr 86 T86 (ar++arcsU p.length l i)),(61,.arr 108 T108 (shiftA p.length (xs.take k.1)))]⟩) (fun k=>xs.length - k.1) ⟨0,Nat.zero_le _⟩ (ent_match [(1,.nm 1),(2,.nm 2),(3,.nm 3),(4,.nm 4),(61,.nil)] rfl rfl ?_ ?_) (fun k=>?_)
      ·first | exact eN | refine eM ?_
       rfl
      ·first | exact eN | refine eM ?_
       rfl
      ·obtain ⟨k,hk⟩:=k
       have hsl:(shiftA p.length (xs.take k)).length=k:=by unfold shiftA;rw [List.length_map,List.length_take];omega
       have hss:=fun h:k < xs.length=>map_take_succ (fun a:Int×Int=>(a.1,a.2 + (p.length:Int))) xs (0,0) h
       have hkr:=fun h:k < xs.length=>hrng _ (mem_of_take_succ xs (0,0) h)
       simp only
       repeat' (first | exact trivial | refine eS rfl ?_ | refine ev_out_inv ?_ | refine rX [0,1,4,5,6,7,9,15,16,17,18,46,47,48,49] hc ?_ ?_ | (refine rC (fun hcond=>?_) (fun hcond=>?_)<;>try (cases hcond;done)))
       ·exact hcond
       ·have hk2:k < xs.length:=Int.ofNat_lt.1 hcond
        have hkr2:=hkr hk2
        refine ⟨⟨by omega,by omega⟩,?_⟩
        rw [hsl]
        simp only [maxN]
        omega
       ·omega
       ·have hk2:k < xs.length:=Int.ofNat_lt.1 hcond
        have hss2:shiftA p.length (xs.take (k + 1))=shiftA p.length (xs.take k)++[((xs.getD k (0,0)).1,(xs.getD k (0,0)).2 + (p.length:Int))]:=hss hk2
        refine ⟨⟨k + 1,hk2⟩,by simp only;omega,ent_match [(1,.nm 1),(2,.nm 2),(3,.nm 3),(4,.nm 4),(61,.nm 61)] rfl rfl ?_ ?_⟩
        ·simp only [hss2]
         first | exact eN | refine eM ?_
        ·simp only [hss2]
         first | exact eN | refine eM ?_
       ·rw [hal2]
        simp only [maxN]
        omega
       ·omega
       ·have hk2:xs.take k=xs:=List.take_of_length_le (Int.ofNat_le.1 hcond)
        rw [hk2]
        have eA:ar++arcsU p.length l i++[shiftA p.length xs]=ar++arcsU p.length l (i + 1):=by
         unfold arcsU
         rw [has2,List.append_assoc]
        refine ⟨⟨i + 1,hi2⟩,by simp only;omega,ent_match [(1,.nm 1),(2,.nm 2),(3,.nm 3),(4,.nm 4)] rfl rfl ?_ ?_⟩
        ·simp only [← eA]
         first | exact eN | refine eM ?_
        ·first | exact eN | refine eM ?_
  ·have hi2:i=l.length:=by omega
   subst hi2
   refine Ev.ent (σ':=⟨[],clO h (p++numsG p.length l.length) (ty++typesG l l.length) (ar++arcsU p.length l l.length)⟩) ?_ (ent_match [(1,.nm 1),(2,.nm 2),(3,.nm 3),(4,.nm 4)] rfl rfl ?_ ?_)
   ·exact ev_finM hc [] rfl (.inr rfl) (.raw (.tuple #[])) rfl ⟨rfl,rfl⟩
   ·unfold clO
    first | exact eN | refine eM ?_
   ·first | exact eN | refine eM ?_
end
/- Functions of unify.classes: join's merge. -/
section
attribute [local go_sem] meetS
def mrgF:List (Int×Int)→List (Int×Int)→List (Int×Int)×List (Int×Int)
 | [],y=>(y,[])
 | a :: x,[]=>(a :: x,[])
 | a :: x,b :: y =>
  if a.1 < b.1 then (a :: (mrgF x (b :: y)).1,(mrgF x (b :: y)).2)
  else if b.1 < a.1 then (b :: (mrgF (a :: x) y).1,(mrgF (a :: x) y).2)
  else (a :: (mrgF x y).1,(a.2,b.2) :: (mrgF x y).2)
termination_by x y=>x.length + y.length
structure MInv (xs ys:List (Int×Int)) (W0:List (Int×Int)) (s:(List (Int×Int)×List (Int×Int))×(List (Int×Int)×List (Int×Int)×Nat)):Prop where
 hi:s.2.2.2≤s.2.2.1.length
 both:s.2.1++(mrgF s.1.1 s.1.2).1=(mrgF xs ys).1
 wait:s.2.2.1.take s.2.2.2++(mrgF s.1.1 s.1.2).2=W0++(mrgF xs ys).2
 len:s.2.1.length + s.1.1.length + s.1.2.length≤xs.length + ys.length
 num:s.2.2.2 + s.1.1.length≤W0.length + xs.length
theorem mrg_x {x y:List (Int×Int)} (h0:0 < x.length) (h:y.length=0∨(x.getD 0 (0,0)).1 < (y.getD 0 (0,0)).1):mrgF x y=(x.getD 0 (0,0) :: (mrgF (x.drop 1) y).1,(mrgF (x.drop 1) y).2):=by
 cases x with
 | nil=>simp at h0
 | cons a x =>
  cases y with
  | nil =>
   simp only [List.drop_succ_cons,List.drop_zero]
   cases x<;>simp [mrgF]
  | cons b y =>
   have h:a.1 < b.1:=by simpa using h
   simp only [List.drop_succ_cons,List.drop_zero]
   rw [mrgF,if_pos h]
   rfl
theorem mrg_y {x y:List (Int×Int)} (h0:0 < y.length) (h:x.length=0∨(y.getD 0 (0,0)).1 < (x.getD 0 (0,0)).1):mrgF x y=(y.getD 0 (0,0) :: (mrgF x (y.drop 1)).1,(mrgF x (y.drop 1)).2):=by
 cases y with
 | nil=>simp at h0
 | cons b y =>
  cases x with
  | nil=>simp [mrgF]
  | cons a x =>
   have h:b.1 < a.1:=by simpa using h
   simp only [List.drop_succ_cons,List.drop_zero]
   rw [mrgF,if_neg (by omega),if_pos h]
   rfl
theorem mrg_xy {x y:List (Int×Int)} (h0:0 < x.length) (h1:0 < y.length) (h:(x.getD 0 (0,0)).1=(y.getD 0 (0,0)).1):mrgF x y=(x.getD 0 (0,0) :: (mrgF (x.drop 1) (y.drop 1)).1,((x.getD 0 (0,0)).2,(y.getD 0 (0,0)).2) :: (mrgF (x.drop 1) (y.drop 1)).2):=by
 cases x with
 | nil=>simp at h0
 | cons a x =>
  cases y with
  | nil=>simp at h1
  | cons b y =>
   have h:a.1=b.1:=by simpa using h
   simp only [List.drop_succ_cons,List.drop_zero]
   rw [mrgF,if_neg (by omega),if_neg (by omega)]
   rfl
section
variable {xs ys W0 x y bo V:List (Int×Int)} {k:Nat}
theorem minv_x (h:MInv xs ys W0 ((x,y),bo,V,k)) (h0:0 < x.length) (hc:y.length=0∨(x.getD 0 (0,0)).1 < (y.getD 0 (0,0)).1):MInv xs ys W0 ((x.drop 1,y),bo++[x.getD 0 (0,0)],V,k):=by
 have e:=mrg_x h0 hc
 obtain ⟨h1,h2,h3,h4,h5⟩:=h
 simp only at h1 h2 h3 h4 h5
 rw [e] at h2 h3
 exact ⟨h1,by rw [List.append_assoc];exact h2,h3,by simp only [List.length_append,List.length_singleton,List.length_drop];omega,by simp only [List.length_drop];omega⟩
theorem minv_y (h:MInv xs ys W0 ((x,y),bo,V,k)) (h0:0 < y.length) (hc:x.length=0∨(y.getD 0 (0,0)).1 < (x.getD 0 (0,0)).1):MInv xs ys W0 ((x,y.drop 1),bo++[y.getD 0 (0,0)],V,k):=by
 have e:=mrg_y h0 hc
 obtain ⟨h1,h2,h3,h4,h5⟩:=h
 simp only at h1 h2 h3 h4 h5
 rw [e] at h2 h3
 exact ⟨h1,by rw [List.append_assoc];exact h2,h3,by simp only [List.length_append,List.length_singleton,List.length_drop];omega,h5⟩
theorem minv_xy (h:MInv xs ys W0 ((x,y),bo,V,k)) (h0:0 < x.length) (h1:0 < y.length) (hc:(x.getD 0 (0,0)).1=(y.getD 0 (0,0)).1):MInv xs ys W0 ((x.drop 1,y.drop 1),bo++[x.getD 0 (0,0)],V.take k++[((x.getD 0 (0,0)).2,(y.getD 0 (0,0)).2)],k + 1):=by
 have e:=mrg_xy h0 h1 hc
 obtain ⟨g1,h2,h3,h4,h5⟩:=h
 simp only at g1 h2 h3 h4 h5
 rw [e] at h2 h3
 have hl:(V.take k++[((x.getD 0 (0,0)).2,(y.getD 0 (0,0)).2)]).length=k + 1:=by simp only [List.length_append,List.length_singleton,List.length_take];omega
 exact ⟨by simp only [hl];omega,by rw [List.append_assoc];exact h2,by simp only;rw [List.take_of_length_le (by omega),List.append_assoc];exact h3,by simp only [List.length_append,List.length_singleton,List.length_drop];omega,by simp only [List.length_drop];omega⟩
end
def mgO (h:HierD) (p ty:List Int) (ar:List (List (Int×Int))) (W:List (Int×Int)) (hi:Nat):List (Nat×Obj) :=
 [(1,.box 94 true [.p T29 h,.sr 2 T3 0 p.length,.sr 3 T3 0 ty.length,.sr 4 T86 0 ar.length]),(2,.arr 3 T3 p),(3,.arr 3 T3 ty),(4,.arr 86 T86 ar),(5,.box 91 false [.bp 1 [] 0]),(6,.box 159 false [.sr 7 T158 0 hi]),(7,.arr 158 T158 W)]
theorem merge_ok (h:HierD) (hh:h.1.length≤100000) (hhc:∀ x∈h.1,x.2.1.length≤100000) (p ty:List Int) (ar:List (List (Int×Int))) (W:List (Int×Int)) (hi:Nat) (hhi:hi≤W.length) (hhb:hi≤100000000000) {a b:Int} (a0:0≤a) (a1:a < (p.length:Int)) (b0:0≤b) (b1:b < (p.length:Int)) (htl:ty.length=p.length) (hal:ar.length=p.length)
  (ta:0≤ty.getD a.toNat 0∧ty.getD a.toNat 0 < (h.1.length:Int)) (tb:0≤ty.getD b.toNat 0∧ty.getD b.toNat 0 < (h.1.length:Int)) (hla:(ar.getD a.toNat []).length≤10000000) (hlb:(ar.getD b.toNat []).length≤10000000) :
  CallM Tryz.prog 101 [.p T3 a,.p T3 b,.bp 5 [] 0,.bp 6 [] 0] (mgO h p ty ar W hi) [1,5,6]
  (fun res objs'=>((meetF h (ty.getD a.toNat 0) (ty.getD b.toNat 0)).2=false∧res=.p .bool false∧objs'=mgO h p ty ar W hi) ∨
   ((meetF h (ty.getD a.toNat 0) (ty.getD b.toNat 0)).2=true∧res=.p .bool true∧∃ W' hi',hi'≤W'.length∧W'.take hi'=W.take hi++(mrgF (ar.getD a.toNat []) (ar.getD b.toNat [])).2 ∧
    objs'=mgO h (p.set b.toNat a) (ty.set a.toNat (meetF h (ty.getD a.toNat 0) (ty.getD b.toNat 0)).1) (ar.set a.toNat (mrgF (ar.getD a.toNat []) (ar.getD b.toNat [])).1) W' hi')):=by
 refine fnM_ok Tryz.func101 (by kernel_rfl) rfl Tryz.ntmps101 (by simp only [List.length_cons,List.length_nil];omega) (by kernel_rfl) rfl rfl (tyTab_ok [(76,meetS)]) (fns_cons meet_ok fns_nil) ?_
 intro w0 K O0 ρ0 hc hok1 hok2
 have a1t:a < (ty.length:Int):=by omega
 have b1t:b < (ty.length:Int):=by omega
 have a1r:a < (ar.length:Int):=by omega
 have b1r:b < (ar.length:Int):=by omega
 simp only [mgO,argEnv]
 repeat' (first | exact trivial | refine eS rfl ?_ | refine ev_out_inv ?_ | refine rX [0,1,2,3,6,7,8,9,10,11,35,71,94,122] hc ?_ ?_ | (refine rC (fun hcond=>?_) (fun hcond=>?_)<;>try (cases hcond;done)))
 ·refine ⟨⟨a0,a1t⟩,⟨b0,b1t⟩,ta,tb,hh,hhc⟩
 ·refine Ev.ent (σ':=⟨[(6,.p .bool false)],mgO h p ty ar W hi⟩) ?_ (ent_match [(1,.nm 1),(2,.nm 2),(3,.nm 3),(4,.nm 4),(5,.nm 5),(6,.nm 6),(7,.nm 7)] rfl rfl ?_ ?_)
  ·exact ev_finM hc [.tmp 6] rfl (.inl rfl) (.p .bool false) eT (.inl ⟨hcond,rfl,rfl⟩)
  ·unfold mgO
   first | exact eN | refine eM ?_
  ·first | exact eN | refine eM ?_
 ·exact ⟨b0,b1⟩
 ·exact ⟨a0,a1t⟩
 ·exact ⟨⟨a0,a1r⟩,b0,b1r⟩
 ·generalize ht:(meetF h (ty.getD a.toNat 0) (ty.getD b.toNat 0)).1=t at *
  generalize hxs:ar.getD a.toNat []=xs at *
  generalize hys:ar.getD b.toNat []=ys at *
  refine ev_loop (ι:={s:(List (Int×Int)×List (Int×Int))×(List (Int×Int)×List (Int×Int)×Nat) // MInv xs ys (W.take hi) s}) (fun s=>⟨[(0,.p T3 a),(1,.p T3 b),(2,.bp 5 [] 0),(3,.bp 6 [] 0),(9,.p T86 s.1.1.1),(10,.p T86 s.1.1.2),(11,.sr 11 T108 0 s.1.2.1.length)],[(1,.box 94 true [.p T29 h,.sr 2 T3 0 p.length,.sr 3 T3 0 ty.length,.sr 4 T86 0 ar.length]),(2,.arr 3 T3 (p.set b.toNat a)),(3,.arr 3 T3 (ty.set a.toNat t)),(4,.arr 86 T86 ar),(5,.box 91 false [.bp 1 [] 0]),(6,.box 159 false [.sr 7 T158 0 s.1.2.2.2]),(7,.arr 158 T158 s.1.2.2.1),(11,.arr 108 T108 s.1.2.1)]⟩) (fun s=>s.1.1.1.length + s.1.1.2.length) ⟨((xs,ys),([],W,hi)),hhi,rfl,rfl,by simp,by simp only [List.length_take];omega⟩ (ent_match [(1,.nm 1),(2,.nm 2),(3,.nm 3),(4,.nm 4),(5,.nm 5),(6,.nm 6),(7,.nm 7),(11,.nil)] rfl rfl ?_ ?_) (fun s=>?_)
  ·first | exact eN | refine eM ?_
  ·first | exact eN | refine eM ?_
  ·obtain ⟨⟨⟨x,y⟩,bo,V,k⟩,hm⟩:=s
   have hk1:=hm.len
   have hk2:=hm.num
   have hk3:=hm.hi
   simp only [List.length_take] at hk1 hk2 hk3 ⊢
   repeat' (first | exact trivial | refine eS rfl ?_ | refine ev_out_inv ?_ | refine rX [0,1,2,3,6,7,8,9,10,11,35,71,94,122] hc ?_ ?_ | (refine rC (fun hcond=>?_) (fun hcond=>?_)<;>try (cases hcond;done)))
   ·refine ⟨fun h=>?_,fun h=>?_⟩
    ·rw [Bool.and_eq_true,decide_eq_true_eq] at h
     exact h.2
    ·rw [Bool.and_eq_true,Bool.not_eq_true',beq_eq_false_iff_ne] at h
     have h9:=h.1
     have h8:y.length≠0:=fun e=>h9 (by rw [e];rfl)
     exact Int.ofNat_lt.2 (Nat.pos_of_ne_zero h8)
   ·have hx0:0 < x.length:=by
     rcases hcond with hcond | hcond
     ·omega
     ·exact Int.ofNat_lt.1 hcond.1
    have hcx:y.length=0∨(x.getD 0 (0,0)).1 < (y.getD 0 (0,0)).1:=by
     rcases hcond with hcond | hcond
     ·exact .inl (Int.ofNat.inj hcond)
     ·exact .inr hcond.2
    refine ev_mix drawsAny hc 9 [([0,1,2,3,4],5),([],8)] [6,7] (by kernel_rfl) (mxA ?_ ?_)
    ·exact ⟨Int.ofNat_lt.2 hx0,Int.ofNat_le.2 hx0⟩
    ·refine mxL hc [11] ?_ ?_
     ·simp only [maxN];omega
     ·refine mxA ?_ ?_
      ·exact Int.ofNat_le.2 hx0
      ·refine mxL hc [] ?_ ?_
       ·trivial
       ·refine mxE [0,1,2,3,6,7,8,9,10,11,35,71,94,122] hc ?_ ?_ ?_
        ·exact Int.ofNat_le.2 hx0
        ·trivial
        ·repeat' (first | exact trivial | refine eS rfl ?_ | refine ev_out_inv ?_ | refine rX [0,1,2,3,6,7,8,9,10,11,35,71,94,122] hc ?_ ?_ | (refine rC (fun hcond=>?_) (fun hcond=>?_)<;>try (cases hcond;done)))
         refine ⟨⟨((x.drop 1,y),bo++[x.getD 0 (0,0)],V,k),minv_x hm hx0 hcx⟩,by simp only [List.length_drop];omega,ent_match [(1,.nm 1),(2,.nm 2),(3,.nm 3),(4,.nm 4),(5,.nm 5),(6,.nm 6),(7,.nm 7),(11,.nm 11)] rfl rfl ?_ ?_⟩
         ·first | exact eN | refine eM ?_
         ·first | exact eN | refine eM ?_
   ·have h8:y.length≠0:=fun e=>hcond.1 (by rw [e];rfl)
    have h7:0 < y.length:=Nat.pos_of_ne_zero h8
    refine ⟨fun h=>Int.ofNat_lt.2 h7,fun h=>?_⟩
    ·rw [Bool.not_eq_true',beq_eq_false_iff_ne] at h
     have h8:x.length≠0:=fun e=>h (by rw [e];rfl)
     exact Int.ofNat_lt.2 (Nat.pos_of_ne_zero h8)
   ·have hy0:0 < y.length:=Nat.pos_of_ne_zero fun e=>(by assumption:¬ _∧_).1 (by rw [e];rfl)
    have hcy:x.length=0∨(y.getD 0 (0,0)).1 < (x.getD 0 (0,0)).1:=by
     rcases hcond with hcond | hcond
     ·exact .inl (Int.ofNat.inj hcond)
     ·exact .inr hcond
    refine ev_mix drawsAny hc 9 [([0,1,2,3,4],5),([],8)] [6,7] (by kernel_rfl) (mxA ?_ ?_)
    ·exact ⟨Int.ofNat_lt.2 hy0,Int.ofNat_le.2 hy0⟩
    ·refine mxL hc [11] ?_ ?_
     ·simp only [maxN];omega
     ·refine mxA ?_ ?_
      ·exact Int.ofNat_le.2 hy0
      ·refine mxL hc [] ?_ ?_
       ·trivial
       ·refine mxE [0,1,2,3,6,7,8,9,10,11,35,71,94,122] hc ?_ ?_ ?_
        ·exact Int.ofNat_le.2 hy0
        ·trivial
        ·repeat' (first | exact trivial | refine eS rfl ?_ | refine ev_out_inv ?_ | refine rX [0,1,2,3,6,7,8,9,10,11,35,71,94,122] hc ?_ ?_ | (refine rC (fun hcond=>?_) (fun hcond=>?_)<;>try (cases hcond;done)))
         refine ⟨⟨((x,y.drop 1),bo++[y.getD 0 (0,0)],V,k),minv_y hm hy0 hcy⟩,by simp only [List.length_drop];omega,ent_match [(1,.nm 1),(2,.nm 2),(3,.nm 3),(4,.nm 4),(5,.nm 5),(6,.nm 6),(7,.nm 7),(11,.nm 11)] rfl rfl ?_ ?_⟩
         ·first | exact eN | refine eM ?_
         ·first | exact eN | refine eM ?_
   ·rename_i hcy
    have hx0:0 < x.length:=Nat.pos_of_ne_zero fun e=>hcond.1 (by rw [e];rfl)
    have hy0:0 < y.length:=Nat.pos_of_ne_zero fun e=>hcy.1 (by rw [e];rfl)
    refine ⟨Int.ofNat_lt.2 hx0,Int.ofNat_lt.2 hy0,?_⟩
    simp only [maxN]
    omega
   ·rename_i hcy
    have hx0:0 < x.length:=Nat.pos_of_ne_zero fun e=>hcond.1 (by rw [e];rfl)
    have hy0:0 < y.length:=Nat.pos_of_ne_zero fun e=>hcy.1 (by rw [e];rfl)
    have he:(x.getD 0 (0,0)).1=(y.getD 0 (0,0)).1:=Int.le_antisymm hcond.2 (hcy.2 (Int.ofNat_lt.2 hx0))
    refine ev_mix drawsAny hc 12 [([0,1,2,3,4],5),([],10),([6,7],11)] [8,9] (by kernel_rfl) (mxA ?_ ?_)
    ·exact ⟨Int.ofNat_lt.2 hx0,Int.ofNat_le.2 hx0,Int.ofNat_le.2 hy0⟩
    ·refine mxL hc [11] ?_ ?_
     ·simp only [maxN];omega
     ·refine mxA ?_ ?_
      ·exact ⟨Int.ofNat_le.2 hx0,Int.ofNat_le.2 hy0⟩
      ·refine mxL hc [] ?_ ?_
       ·trivial
       ·refine mxA ?_ ?_
        ·exact ⟨Int.ofNat_le.2 hx0,Int.ofNat_le.2 hy0⟩
        ·refine mxL hc [] ?_ ?_
         ·trivial
         ·refine mxE [0,1,2,3,6,7,8,9,10,11,35,71,94,122] hc ?_ ?_ ?_
          ·exact Int.ofNat_le.2 hy0
          ·trivial
          ·repeat' (first | exact trivial | refine eS rfl ?_ | refine ev_out_inv ?_ | refine rX [0,1,2,3,6,7,8,9,10,11,35,71,94,122] hc ?_ ?_ | (refine rC (fun hcond=>?_) (fun hcond=>?_)<;>try (cases hcond;done)))
           refine ⟨⟨((x.drop 1,y.drop 1),bo++[x.getD 0 (0,0)],V.take k++[((x.getD 0 (0,0)).2,(y.getD 0 (0,0)).2)],k + 1),minv_xy hm hx0 hy0 he⟩,by simp only [List.length_drop];omega,ent_match [(1,.nm 1),(2,.nm 2),(3,.nm 3),(4,.nm 4),(5,.nm 5),(6,.nm 6),(7,.nm 7),(11,.nm 11)] rfl rfl ?_ ?_⟩
           ·first | exact eN | refine eM ?_
           ·first | exact eN | refine eM ?_
   ·exact ⟨a0,a1r⟩
   ·have hx0:x=[]:=List.eq_nil_of_length_eq_zero (by omega)
    have hy0:y=[]:=List.eq_nil_of_length_eq_zero (by omega)
    subst hx0 hy0
    have hb:=hm.both
    have hw:=hm.wait
    simp only [mrgF,List.append_nil] at hb hw
    refine Ev.ent (σ':=⟨[(6,.p .bool true)],mgO h (p.set b.toNat a) (ty.set a.toNat t) (ar.set a.toNat bo) V k⟩) ?_ (ent_match [(1,.nm 1),(2,.nm 2),(3,.nm 3),(4,.nm 4),(5,.nm 5),(6,.nm 6),(7,.nm 7)] rfl rfl ?_ ?_)
    ·exact ev_finM hc [.tmp 6] rfl (.inl rfl) (.p .bool true) eT (.inr ⟨by assumption,rfl,V,k,hk3,hw,by rw [hb];rfl⟩)
    ·unfold mgO
     simp only [List.length_set]
     first | exact eN | refine eM ?_
    ·first | exact eN | refine eM ?_
end
/- Plain: what join keeps: the classes are the least that make the pairs equal, and what they have is asked by all. -/
section
theorem hsub_trans {h:HierD} (hk:HOk h) {a b c:Int} (a0:0≤a) (a1:a < (h.1.length:Int)) (b0:0≤b) (b1:b < (h.1.length:Int)) (c0:0≤c) (c1:c < (h.1.length:Int)) (h1:hsubF h a b=true) (h2:hsubF h b c=true):hsubF h a c=true :=
 (hsub_iff hk a0 a1 c0 c1).2 fun i hi=>(hsub_iff hk a0 a1 b0 b1).1 h1 i ((hsub_iff hk b0 b1 c0 c1).1 h2 i hi)
/-! Merged arcs -/
theorem mrg_left:∀ {x y:List (Int×Int)} {a:Int×Int},a∈x→a∈(mrgF x y).1
 | [],_,_,h=>by cases h
 | b :: x,[],a,h=>by simpa [mrgF] using h
 | b :: x,c :: y,a,h=>by
  rw [mrgF]
  split
  ·rcases List.mem_cons.1 h with rfl | h
   ·simp
   ·exact List.mem_cons_of_mem _ (mrg_left h)
  ·split
   ·exact List.mem_cons_of_mem _ (mrg_left h)
   ·rcases List.mem_cons.1 h with rfl | h
    ·simp
    ·exact List.mem_cons_of_mem _ (mrg_left h)
termination_by x y=>x.length + y.length
theorem mrg_right:∀ {x y:List (Int×Int)} {a:Int×Int},a∈y→a∈(mrgF x y).1∨∃ t,(a.1,t)∈(mrgF x y).1∧(t,a.2)∈(mrgF x y).2
 | [],y,a,h=>by
  left
  simpa [mrgF] using h
 | b :: x,[],a,h=>by cases h
 | b :: x,c :: y,a,h=>by
  rw [mrgF]
  split
  ·rcases mrg_right (x:=x) h with g | ⟨t,g1,g2⟩
   ·exact .inl (List.mem_cons_of_mem _ g)
   ·exact .inr ⟨t,List.mem_cons_of_mem _ g1,g2⟩
  ·split
   ·rcases List.mem_cons.1 h with rfl | h
    ·left;simp
    ·rcases mrg_right (x:=b :: x) h with g | ⟨t,g1,g2⟩
     ·exact .inl (List.mem_cons_of_mem _ g)
     ·exact .inr ⟨t,List.mem_cons_of_mem _ g1,g2⟩
   ·rcases List.mem_cons.1 h with rfl | h
    ·right
     exact ⟨b.2,by rw [show a.1=b.1 by omega];simp,by simp⟩
    ·rcases mrg_right (x:=x) h with g | ⟨t,g1,g2⟩
     ·exact .inl (List.mem_cons_of_mem _ g)
     ·exact .inr ⟨t,List.mem_cons_of_mem _ g1,List.mem_cons_of_mem _ g2⟩
termination_by x y=>x.length + y.length
theorem mrg_sub:∀ {x y:List (Int×Int)} {a:Int×Int},a∈(mrgF x y).1→a∈x∨a∈y
 | [],y,a,h=>by
  right
  simpa [mrgF] using h
 | b :: x,[],a,h=>by
  left
  simpa [mrgF] using h
 | b :: x,c :: y,a,h=>by
  rw [mrgF] at h
  split at h
  ·rcases List.mem_cons.1 h with rfl | h
   ·left;simp
   ·rcases mrg_sub h with g | g
    ·exact .inl (List.mem_cons_of_mem _ g)
    ·exact .inr g
  ·split at h
   ·rcases List.mem_cons.1 h with rfl | h
    ·right;simp
    ·rcases mrg_sub h with g | g
     ·exact .inl g
     ·exact .inr (List.mem_cons_of_mem _ g)
   ·rcases List.mem_cons.1 h with rfl | h
    ·left;simp
    ·rcases mrg_sub h with g | g
     ·exact .inl (List.mem_cons_of_mem _ g)
     ·exact .inr (List.mem_cons_of_mem _ g)
termination_by x y=>x.length + y.length
theorem mrg_prs:∀ {x y:List (Int×Int)} {q:Int×Int},q∈(mrgF x y).2→∃ e,(e,q.1)∈x∧(e,q.2)∈y
 | [],y,q,h=>by simp [mrgF] at h
 | b :: x,[],q,h=>by simp [mrgF] at h
 | b :: x,c :: y,q,h=>by
  rw [mrgF] at h
  split at h
  ·obtain ⟨e,h1,h2⟩:=mrg_prs h
   exact ⟨e,List.mem_cons_of_mem _ h1,h2⟩
  ·split at h
   ·obtain ⟨e,h1,h2⟩:=mrg_prs h
    exact ⟨e,h1,List.mem_cons_of_mem _ h2⟩
   ·rcases List.mem_cons.1 h with rfl | h
    ·exact ⟨b.1,by simp,by rw [show b.1=c.1 by omega];simp⟩
    ·obtain ⟨e,h1,h2⟩:=mrg_prs h
     exact ⟨e,List.mem_cons_of_mem _ h1,List.mem_cons_of_mem _ h2⟩
termination_by x y=>x.length + y.length
theorem mrg_num:∀ {x y:List (Int×Int)},(mrgF x y).2.length≤x.length
 | [],y=>by simp [mrgF]
 | b :: x,[]=>by simp [mrgF]
 | b :: x,c :: y=>by
  rw [mrgF]
  split
  ·have:=mrg_num (x:=x) (y:=c :: y)
   simp only [List.length_cons]
   omega
  ·split
   ·exact mrg_num (x:=b :: x) (y:=y)
   ·have:=mrg_num (x:=x) (y:=y)
    simp only [List.length_cons]
    omega
termination_by x y=>x.length + y.length
abbrev Str (l:List (Int×Int)):Prop:=l.Pairwise (fun a b=>a.1 < b.1)
theorem mrg_srt:∀ {x y:List (Int×Int)},Str x→Str y→Str (mrgF x y).1
 | [],y,_,h=>by simpa [mrgF] using h
 | b :: x,[],h,_=>by simpa [mrgF] using h
 | b :: x,c :: y,hx,hy=>by
  have hx2:=List.pairwise_cons.1 hx
  have hy2:=List.pairwise_cons.1 hy
  rw [mrgF]
  split
  ·rename_i hc
   refine List.pairwise_cons.2 ⟨fun a ha=>?_,mrg_srt hx2.2 hy⟩
   rcases mrg_sub ha with g | g
   ·exact hx2.1 a g
   ·rcases List.mem_cons.1 g with rfl | g
    ·exact hc
    ·have:=hy2.1 a g
     omega
  ·split
   ·rename_i hc
    refine List.pairwise_cons.2 ⟨fun a ha=>?_,mrg_srt hx hy2.2⟩
    rcases mrg_sub ha with g | g
    ·rcases List.mem_cons.1 g with rfl | g
     ·exact hc
     ·have:=hx2.1 a g
      omega
    ·exact hy2.1 a g
   ·refine List.pairwise_cons.2 ⟨fun a ha=>?_,mrg_srt hx2.2 hy2.2⟩
    rcases mrg_sub ha with g | g
    ·exact hx2.1 a g
    ·have:=hy2.1 a g
     omega
termination_by x y=>x.length + y.length
/-! Classes joined -/
theorem link_rt {p:List Int} {rk:Int→Nat} (hp:Fo p rk) {a b:Int} (a0:0≤a) (b0:0≤b) (b1:b < (p.length:Int)) (ha:par p a=a) (hb:par p b=b) (hab:a≠b) {x r:Int} (x0:0≤x) (x1:x < (p.length:Int)) (h:Rt p x r):Rt (p.set b.toNat a) x (if r=b then a else r):=by
 have hbase:Rt (p.set b.toNat a) a a:=.base (by rw [par_set b0 b1 a a0,if_neg hab];exact ha)
 induction h with
 | @base n hn =>
  split
  ·rename_i e
   rw [e]
   exact .step (by rw [par_set b0 b1 b b0,if_pos rfl];exact hab) (by rw [par_set b0 b1 b b0,if_pos rfl];exact hbase)
  ·rename_i e
   exact .base (by rw [par_set b0 b1 n x0,if_neg e];exact hn)
 | @step n r hn _ ih =>
  have hnb:n≠b:=fun e=>hn (e ▸ hb)
  have hr:=hp.rng n x0 x1
  exact .step (by rw [par_set b0 b1 n x0,if_neg hnb];exact hn) (by rw [par_set b0 b1 n x0,if_neg hnb];exact ih hr.1 hr.2)
theorem link_fo {p:List Int} {rk:Int→Nat} (hp:Fo p rk) {a b:Int} (a0:0≤a) (a1:a < (p.length:Int)) (b0:0≤b) (b1:b < (p.length:Int)) (ha:par p a=a) (hb:par p b=b) (hab:a≠b):∃ rk',Fo (p.set b.toNat a) rk':=by
 classical
 refine ⟨fun x=>if Rt p x b then rk x + rk a + 1 else rk x,fun n n0 n1=>?_,fun n n0 n1 hn=>?_⟩
 ·rw [List.length_set] at n1 ⊢
  rw [par_set b0 b1 n n0]
  split
  ·exact ⟨a0,a1⟩
  ·exact hp.rng n n0 n1
 ·rw [List.length_set] at n1
  rw [par_set b0 b1 n n0] at hn ⊢
  by_cases e:n=b
  ·subst e
   rw [if_pos rfl]
   have h1:¬ Rt p a n:=fun g=>hab (g.det (.base ha)).symm
   rw [if_neg h1,if_pos (.base hb)]
   omega
  ·rw [if_neg e] at hn ⊢
   have hd:=hp.dec n n0 n1 hn
   have hiff:Rt p n b↔Rt p (par p n) b:=by
    constructor
    ·intro g
     cases g with
     | base g=>exact absurd g hn
     | step _ g=>exact g
    ·exact fun g=>.step hn g
   by_cases g:Rt p n b
   ·rw [if_pos g,if_pos (hiff.1 g)]
    omega
   ·rw [if_neg g,if_neg (fun g2=>g (hiff.2 g2))]
    exact hd
inductive EG (n:Nat) (p:List Int) (W:List (Int×Int)):Int→Int→Prop
 | cls {x y r:Int} (x0:0≤x) (x1:x < (n:Int)) (y0:0≤y) (y1:y < (n:Int)) (h:Rt p x r) (g:Rt p y r):EG n p W x y
 | wt {x y:Int} (h:(x,y)∈W):EG n p W x y
 | symm {x y:Int} (h:EG n p W x y):EG n p W y x
 | trans {x y z:Int} (h:EG n p W x y) (g:EG n p W y z):EG n p W x z
theorem EG.mono {n:Nat} {p q:List Int} {W V:List (Int×Int)} (h1:∀ x y r,0≤x→x < (n:Int)→0≤y→y < (n:Int)→Rt p x r→Rt p y r→EG n q V x y) (h2:∀ x y,(x,y)∈W→EG n q V x y) {x y:Int} (h:EG n p W x y):EG n q V x y:=by
 induction h with
 | cls x0 x1 y0 y1 h g=>exact h1 _ _ _ x0 x1 y0 y1 h g
 | wt h=>exact h2 _ _ h
 | symm _ ih=>exact .symm ih
 | trans _ _ ih1 ih2=>exact .trans ih1 ih2
structure XOk (h:HierD) (N:List GNode) (P:List (Int×Int)) (X:List GNode) (v:Int→Int):Prop where
 rng:∀ x,0≤x→x < (N.length:Int)→0≤v x∧v x < (X.length:Int)
 ty:∀ x,0≤x→x < (N.length:Int)→hsubF h (N.getD x.toNat (0,[])).1 (X.getD (v x).toNat (0,[])).1=true
 arc:∀ x,0≤x→x < (N.length:Int)→∀ a∈arcsAt N x,tgtF (arcsAt X (v x)) a.1=v a.2
 eq:∀ q∈P,v q.1=v q.2
structure JX (h:HierD) (X:List GNode) (v:Int→Int) (n:Nat) (p ty:List Int) (ar:List (List (Int×Int))) (W:List (Int×Int)):Prop where
 cls:∀ x r,0≤x→x < (n:Int)→Rt p x r→v x=v r
 wt:∀ w∈W,v w.1=v w.2
 ty:∀ r,0≤r→r < (n:Int)→par p r=r→hsubF h (ty.getD r.toNat 0) (X.getD (v r).toNat (0,[])).1=true
 arc:∀ r,0≤r→r < (n:Int)→par p r=r→∀ a∈ar.getD r.toNat [],tgtF (arcsAt X (v r)) a.1=v a.2
def featsN (N:List GNode):List Int:=N.flatMap fun x=>x.2.map (·.1)
structure JI (h:HierD) (N:List GNode) (P:List (Int×Int)) (p ty:List Int) (ar:List (List (Int×Int))) (W:List (Int×Int)):Prop where
 nty:TyOk h N
 fo:∃ rk,Fo p rk
 lp:p.length=N.length
 lt:ty.length=N.length
 la:ar.length=N.length
 wr:∀ w∈W,(0≤w.1∧w.1 < (N.length:Int))∧(0≤w.2∧w.2 < (N.length:Int))
 tyr:∀ x,0≤x→x < (N.length:Int)→0≤ty.getD x.toNat 0∧ty.getD x.toNat 0 < (h.1.length:Int)
 arr:∀ k,∀ a∈ar.getD k [],(0≤a.2∧a.2 < (N.length:Int))∧a.1∈featsN N
 srt:∀ k,Str (ar.getD k [])
 sp:∀ q∈P,EG N.length p W q.1 q.2
 st:∀ x r,0≤x→x < (N.length:Int)→Rt p x r→hsubF h (N.getD x.toNat (0,[])).1 (ty.getD r.toNat 0)=true
 sa:∀ x r,0≤x→x < (N.length:Int)→Rt p x r→∀ a∈arcsAt N x,∃ t,(a.1,t)∈ar.getD r.toNat []∧EG N.length p W a.2 t
 co:∀ X v,TyOk h X→XOk h N P X v→JX h X v N.length p ty ar W
theorem rt_rng {p:List Int} {rk:Int→Nat} (hp:Fo p rk) {x r:Int} (x0:0≤x) (x1:x < (p.length:Int)) (h:Rt p x r):0≤r∧r < (p.length:Int):=by
 obtain ⟨s,hs,s0,s1⟩:=hp.root x0 x1
 rw [h.det hs]
 exact ⟨s0,s1⟩
theorem same_root {p q:List Int} (h:SameRt p q) {r:Int} (r0:0≤r) (r1:r < (p.length:Int)):par p r=r↔par q r=r :=
 ⟨fun e=>((h.2 r r r0 r1).1 (.base e)).root,fun e=>((h.2 r r r0 r1).2 (.base e)).root⟩
theorem ji_same {h:HierD} {N:List GNode} {P:List (Int×Int)} {p q ty:List Int} {ar:List (List (Int×Int))} {W:List (Int×Int)} (hs:SameRt p q) (hq:∃ rk,Fo q rk) (hj:JI h N P p ty ar W):JI h N P q ty ar W:=by
 obtain ⟨nty,fo,lp,lt,la,wr,tyr,arr,srt,sp,st,sa,co⟩:=hj
 have hiff:∀ x r,0≤x→x < (N.length:Int)→(Rt p x r↔Rt q x r):=fun x r x0 x1=>hs.2 x r x0 (by rw [lp];exact x1)
 have hE:∀ {x y},EG N.length p W x y→EG N.length q W x y:=fun {x y} g=>g.mono (fun x y r x0 x1 y0 y1 h1 h2=>.cls x0 x1 y0 y1 ((hiff x r x0 x1).1 h1) ((hiff y r y0 y1).1 h2)) (fun _ _ h=>.wt h)
 refine ⟨nty,hq,by rw [← hs.1];exact lp,lt,la,wr,tyr,arr,srt,fun q hq=>hE (sp q hq),fun x r x0 x1 hr=>st x r x0 x1 ((hiff x r x0 x1).2 hr),fun x r x0 x1 hr a ha=>?_,fun X v hX hv=>?_⟩
 ·obtain ⟨t,h1,h2⟩:=sa x r x0 x1 ((hiff x r x0 x1).2 hr) a ha
  exact ⟨t,h1,hE h2⟩
 ·obtain ⟨c1,c2,c3,c4⟩:=co X v hX hv
  exact ⟨fun x r x0 x1 hr=>c1 x r x0 x1 ((hiff x r x0 x1).2 hr),c2,fun r r0 r1 hr=>c3 r r0 r1 ((same_root hs r0 (by rw [lp];exact r1)).2 hr),fun r r0 r1 hr=>c4 r r0 r1 ((same_root hs r0 (by rw [lp];exact r1)).2 hr)⟩
section
variable {h:HierD} {N:List GNode} {P:List (Int×Int)} {p ty:List Int} {ar:List (List (Int×Int))} {W:List (Int×Int)} {s t a b:Int}
theorem ji_skip (hj:JI h N P p ty ar (W++[(s,t)])) (hs:Rt p s a) (ht:Rt p t a):JI h N P p ty ar W:=by
 obtain ⟨nty,fo,lp,lt,la,wr,tyr,arr,srt,sp,st,sa,co⟩:=hj
 have hw:=wr (s,t) (by simp)
 have hE:∀ {x y},EG N.length p (W++[(s,t)]) x y→EG N.length p W x y:=fun {x y} g=>g.mono (fun x y r x0 x1 y0 y1 h1 h2=>.cls x0 x1 y0 y1 h1 h2) (fun x y hxy=>by
  rcases List.mem_append.1 hxy with hxy | hxy
  ·exact .wt hxy
  ·have e:(x,y)=(s,t):=by simpa using hxy
   cases e
   exact .cls hw.1.1 hw.1.2 hw.2.1 hw.2.2 hs ht)
 refine ⟨nty,fo,lp,lt,la,fun w hw=>wr w (List.mem_append_left _ hw),tyr,arr,srt,fun q hq=>hE (sp q hq),st,fun x r x0 x1 hr a ha=>?_,fun X v hX hv=>?_⟩
 ·obtain ⟨u,h1,h2⟩:=sa x r x0 x1 hr a ha
  exact ⟨u,h1,hE h2⟩
 ·obtain ⟨c1,c2,c3,c4⟩:=co X v hX hv
  exact ⟨c1,fun w hw=>c2 w (List.mem_append_left _ hw),c3,c4⟩
theorem ji_meet (hk:HOk h) (hj:JI h N P p ty ar (W++[(s,t)])) (hs:Rt p s a) (ht:Rt p t b) {X:List GNode} {v:Int→Int} (hX:TyOk h X) (hv:XOk h N P X v) :
  v a=v b∧(meetF h (ty.getD a.toNat 0) (ty.getD b.toNat 0)).2=true∧hsubF h (meetF h (ty.getD a.toNat 0) (ty.getD b.toNat 0)).1 (X.getD (v a).toNat (0,[])).1=true:=by
 obtain ⟨rk,fo⟩:=hj.fo
 obtain ⟨⟨s0,s1⟩,t0,t1⟩:=hj.wr (s,t) (by simp)
 simp only at s0 s1 t0 t1
 have ra:=rt_rng fo s0 (by rw [hj.lp];exact s1) hs
 have rb:=rt_rng fo t0 (by rw [hj.lp];exact t1) ht
 rw [hj.lp] at ra rb
 obtain ⟨c1,c2,c3,c4⟩:=hj.co X v hX hv
 have e1:=c1 s a s0 s1 hs
 have e2:=c1 t b t0 t1 ht
 have e3:v s=v t:=c2 (s,t) (by simp)
 have e:v a=v b:=by rw [← e1,← e2,e3]
 have g1:=c3 a ra.1 ra.2 hs.root
 have g2:=c3 b rb.1 rb.2 ht.root
 rw [← e] at g2
 have hva:=hv.rng a ra.1 ra.2
 have hx:=hX _ (mem_of_take_succ X (0,[]) (k:=(v a).toNat) (by omega))
 have ta:=hj.tyr a ra.1 ra.2
 have tb:=hj.tyr b rb.1 rb.2
 obtain ⟨m1,m2⟩:=(meet_law hk ta.1 ta.2 tb.1 tb.2).2 _ hx.1 hx.2 g1 g2
 exact ⟨e,m1,m2⟩
theorem getD_set3 {α:Type} {l:List α} {d v:α} {a r:Int} (a0:0≤a) (a1:a < (l.length:Int)) (r0:0≤r):(l.set a.toNat v).getD r.toNat d=if r=a then v else l.getD r.toNat d:=by
 by_cases e:r=a
 ·subst e
  rw [if_pos rfl,getD_set_self _ _ _ (by omega)]
 ·rw [if_neg e,getD_set_ne _ _ _ (by omega)]
theorem ji_merge (hk:HOk h) (hj:JI h N P p ty ar (W++[(s,t)])) (hs:Rt p s a) (ht:Rt p t b) (hab:a≠b) (hm:(meetF h (ty.getD a.toNat 0) (ty.getD b.toNat 0)).2=true) :
  JI h N P (p.set b.toNat a) (ty.set a.toNat (meetF h (ty.getD a.toNat 0) (ty.getD b.toNat 0)).1) (ar.set a.toNat (mrgF (ar.getD a.toNat []) (ar.getD b.toNat [])).1) (W++(mrgF (ar.getD a.toNat []) (ar.getD b.toNat [])).2):=by
 have hmt:=fun X v hX hv=>ji_meet (X:=X) (v:=v) hk hj hs ht hX hv
 obtain ⟨nty,⟨rk,fo⟩,lp,lt,la,wr,tyr,arr,srt,sp,st,sa,co⟩:=hj
 obtain ⟨⟨s0,s1⟩,t0,t1⟩:=wr (s,t) (by simp)
 simp only at s0 s1 t0 t1
 have ra:=rt_rng fo s0 (by rw [lp];exact s1) hs
 have rb:=rt_rng fo t0 (by rw [lp];exact t1) ht
 have ha:=hs.root
 have hb:=ht.root
 have hnew:=fun {x r:Int} (x0:0≤x) (x1:x < (N.length:Int)) (hx:Rt p x r)=>link_rt fo ra.1 rb.1 rb.2 ha hb hab x0 (by rw [lp];exact x1) hx
 have hold:∀ {x r:Int},0≤x→x < (N.length:Int)→Rt (p.set b.toNat a) x r→∃ r',Rt p x r'∧r=if r'=b then a else r':=fun {x r} x0 x1 hx=>by
  obtain ⟨r',h1,-,-⟩:=fo.root x0 (by rw [lp];exact x1)
  exact ⟨r',h1,hx.det (hnew x0 x1 h1)⟩
 have ta:=tyr a ra.1 (by rw [← lp];exact ra.2)
 have tb:=tyr b rb.1 (by rw [← lp];exact rb.2)
 obtain ⟨q0,q1,q2,q3⟩:=(meet_law hk ta.1 ta.2 tb.1 tb.2).1 hm
 generalize hmt0:(meetF h (ty.getD a.toNat 0) (ty.getD b.toNat 0)).1=m at *
 generalize hxs:ar.getD a.toNat []=xs at *
 generalize hys:ar.getD b.toNat []=ys at *
 have hst:EG N.length (p.set b.toNat a) (W++(mrgF xs ys).2) s t:=by
  have h1:=hnew s0 s1 hs
  have h2:=hnew t0 t1 ht
  rw [if_neg hab] at h1
  rw [if_pos rfl] at h2
  exact .cls s0 s1 t0 t1 h1 h2
 have hE:∀ {x y},EG N.length p (W++[(s,t)]) x y→EG N.length (p.set b.toNat a) (W++(mrgF xs ys).2) x y:=fun {x y} g=>g.mono (fun x y r x0 x1 y0 y1 h1 h2=>.cls x0 x1 y0 y1 (hnew x0 x1 h1) (hnew y0 y1 h2)) (fun x y hxy=>by
  rcases List.mem_append.1 hxy with hxy | hxy
  ·exact .wt (List.mem_append_left _ hxy)
  ·have e:(x,y)=(s,t):=by simpa using hxy
   cases e
   exact hst)
 have hty:=fun {r:Int} (r0:0≤r)=>getD_set3 (l:=ty) (d:=0) (v:=m) ra.1 (by rw [lt,← lp];exact ra.2) r0
 have har:=fun {r:Int} (r0:0≤r)=>getD_set3 (l:=ar) (d:=[]) (v:=(mrgF xs ys).1) ra.1 (by rw [la,← lp];exact ra.2) r0
 refine ⟨nty,link_fo fo ra.1 ra.2 rb.1 rb.2 ha hb hab,by rw [List.length_set];exact lp,by rw [List.length_set];exact lt,by rw [List.length_set];exact la,fun w hw=>?_,fun x x0 x1=>?_,fun k y hy=>?_,fun k=>?_,fun q hq=>hE (sp q hq),fun x r x0 x1 hr=>?_,fun x r x0 x1 hr y hy=>?_,fun X v hX hv=>?_⟩
 ·rcases List.mem_append.1 hw with hw | hw
  ·exact wr w (List.mem_append_left _ hw)
  ·obtain ⟨e,e1,e2⟩:=mrg_prs hw
   rw [← hxs] at e1
   rw [← hys] at e2
   exact ⟨(arr _ _ e1).1,(arr _ _ e2).1⟩
 ·rw [hty x0]
  split
  ·exact ⟨q0,q1⟩
  ·exact tyr x x0 x1
 ·have h1:=har (r:=(k:Int)) (by omega)
  rw [Int.toNat_natCast] at h1
  rw [h1] at hy
  split at hy
  ·rcases mrg_sub hy with hy | hy
   ·rw [← hxs] at hy;exact arr _ _ hy
   ·rw [← hys] at hy;exact arr _ _ hy
  ·exact arr _ _ hy
 ·have h1:=har (r:=(k:Int)) (by omega)
  rw [Int.toNat_natCast] at h1
  rw [h1]
  split
  ·exact mrg_srt (by rw [← hxs];exact srt _) (by rw [← hys];exact srt _)
  ·exact srt k
 ·obtain ⟨r',h1,rfl⟩:=hold x0 x1 hr
  have hx:=nty _ (mem_of_take_succ N (0,[]) (k:=x.toNat) (by omega))
  have hrr:=rt_rng fo x0 (by rw [lp];exact x1) h1
  by_cases e:r'=b
  ·rw [if_pos e,hty ra.1,if_pos rfl]
   exact hsub_trans hk hx.1 hx.2 tb.1 tb.2 q0 q1 (by rw [← e];exact st x r' x0 x1 h1) q3
  ·rw [if_neg e,hty hrr.1]
   split
   ·rename_i e2
    exact hsub_trans hk hx.1 hx.2 ta.1 ta.2 q0 q1 (by rw [← e2];exact st x r' x0 x1 h1) q2
   ·exact st x r' x0 x1 h1
 ·obtain ⟨r',h1,rfl⟩:=hold x0 x1 hr
  have hrr:=rt_rng fo x0 (by rw [lp];exact x1) h1
  obtain ⟨u,u1,u2⟩:=sa x r' x0 x1 h1 y hy
  by_cases e:r'=b
  ·rw [if_pos e,har ra.1,if_pos rfl]
   rw [e,hys] at u1
   rcases mrg_right (x:=xs) u1 with g | ⟨w,g1,g2⟩
   ·exact ⟨u,g,hE u2⟩
   ·exact ⟨w,g1,.trans (hE u2) (.symm (.wt (List.mem_append_right _ g2)))⟩
  ·rw [if_neg e,har hrr.1]
   split
   ·rename_i e2
    rw [e2,hxs] at u1
    exact ⟨u,mrg_left u1,hE u2⟩
   ·exact ⟨u,u1,hE u2⟩
 ·obtain ⟨c1,c2,c3,c4⟩:=co X v hX hv
  obtain ⟨e,-,m2⟩:=hmt X v hX hv
  have hroot:∀ r,0≤r→r < (N.length:Int)→par (p.set b.toNat a) r=r→r≠b∧par p r=r:=fun r r0 r1 hr=>by
   rw [par_set rb.1 rb.2 r r0] at hr
   split at hr
   ·rename_i e;rw [e] at hr;exact absurd hr hab
   ·rename_i e;exact ⟨e,hr⟩
  refine ⟨fun x r x0 x1 hr=>?_,fun w hw=>?_,fun r r0 r1 hr=>?_,fun r r0 r1 hr y hy=>?_⟩
  ·obtain ⟨r',h1,rfl⟩:=hold x0 x1 hr
   have:=c1 x r' x0 x1 h1
   split
   ·rename_i e2
    rw [this,e2,e]
   ·exact this
  ·rcases List.mem_append.1 hw with hw | hw
   ·exact c2 w (List.mem_append_left _ hw)
   ·obtain ⟨f,e1,e2⟩:=mrg_prs hw
    rw [← hxs] at e1
    rw [← hys] at e2
    have g1:=c4 a ra.1 (by rw [← lp];exact ra.2) ha _ e1
    have g2:=c4 b rb.1 (by rw [← lp];exact rb.2) hb _ e2
    rw [← g1,← g2,e]
  ·obtain ⟨-,h2⟩:=hroot r r0 r1 hr
   rw [hty r0]
   split
   ·rename_i e2;rw [e2];exact m2
   ·exact c3 r r0 r1 h2
  ·obtain ⟨-,h2⟩:=hroot r r0 r1 hr
   rw [har r0] at hy
   split at hy
   ·rename_i e2
    rw [e2]
    rcases mrg_sub hy with hy | hy
    ·exact c4 a ra.1 (by rw [← lp];exact ra.2) ha y (by rw [hxs];exact hy)
    ·rw [e]
     exact c4 b rb.1 (by rw [← lp];exact rb.2) hb y (by rw [hys];exact hy)
   ·exact c4 r r0 r1 h2 y hy
end
end
/- Functions of unify.classes: join. -/
section
theorem filter_less {l:List Nat} {f g:Nat→Bool} {b:Nat} (hn:l.Nodup) (hb:b∈l) (h1:f b=true) (h2:g b=false) (h:∀ x∈l,x≠b→g x=f x):(l.filter g).length + 1=(l.filter f).length:=by
 induction l with
 | nil=>cases hb
 | cons x l ih =>
  obtain ⟨hx,hn2⟩:=List.nodup_cons.1 hn
  by_cases e:x=b
  ·subst e
   have:l.filter g=l.filter f:=List.filter_congr fun y hy=>h y (by simp [hy]) (fun e=>hx (e ▸ hy))
   rw [List.filter_cons,List.filter_cons,if_neg (by rw [h2];simp),if_pos h1,this]
   rfl
  ·have hb2:b∈l:=by
    rcases List.mem_cons.1 hb with g | g
    ·exact absurd g.symm e
    ·exact g
   have ih2:=ih hn2 hb2 (fun y hy=>h y (by simp [hy]))
   rw [List.filter_cons,List.filter_cons,h x (by simp) e]
   split
   ·simp only [List.length_cons];omega
   ·exact ih2
def nR (p:List Int):Nat:=((List.range p.length).filter fun k=>p.getD k 0 == (k:Int)).length
theorem nR_le (p:List Int):nR p≤p.length:=by
 have:=List.length_filter_le (fun k=>p.getD k 0 == (k:Int)) (List.range p.length)
 rw [List.length_range] at this
 exact this
theorem nR_same {p q:List Int} (h:SameRt p q):nR q=nR p:=by
 unfold nR
 rw [← h.1]
 refine congrArg List.length (List.filter_congr fun k hk=>?_)
 have hk2:=List.mem_range.1 hk
 have:=same_root h (r:=(k:Int)) (by omega) (by omega)
 unfold par at this
 rw [Int.toNat_natCast] at this
 rw [Bool.eq_iff_iff,beq_iff_eq,beq_iff_eq]
 exact this.symm
theorem nR_link {p:List Int} {a b:Int} (b0:0≤b) (b1:b < (p.length:Int)) (hb:par p b=b) (hab:a≠b):nR (p.set b.toNat a) + 1=nR p:=by
 unfold nR
 rw [List.length_set]
 refine filter_less (b:=b.toNat) List.nodup_range (List.mem_range.2 (by omega)) ?_ ?_ fun x _ hx=>?_
 ·rw [beq_iff_eq]
  unfold par at hb
  omega
 ·rw [getD_set_self _ _ _ (by omega),beq_eq_false_iff_ne]
  omega
 ·rw [getD_set_ne _ _ _ (by omega)]
theorem nodup_le3 {α:Type} [DecidableEq α]:∀ {l l':List α},l.Nodup→(∀ x∈l,x∈l')→l.length≤l'.length
 | [],_,_,_=>by simp
 | x :: l,l',hn,h=>by
  obtain ⟨hx,hn2⟩:=List.nodup_cons.1 hn
  have hm:=h x (by simp)
  have:=nodup_le3 (l:=l) (l':=l'.erase x) hn2 (fun y hy=>(List.mem_erase_of_ne (fun e:y=x=>hx (by rw [← e];exact hy))).2 (h y (by simp [hy])))
  rw [List.length_erase_of_mem hm] at this
  have:=List.length_pos_of_mem hm
  simp only [List.length_cons]
  omega
theorem str_len {l:List (Int×Int)} (h:Str l) {S:List Int} (hs:∀ a∈l,a.1∈S):l.length≤S.length:=by
 have hn:(l.map (·.1)).Nodup:=by
  unfold List.Nodup
  rw [List.pairwise_map]
  exact h.imp fun g=>by omega
 have:=nodup_le3 hn (l':=S) (fun x hx=>by
  obtain ⟨a,ha,rfl⟩:=List.mem_map.1 hx
  exact hs a ha)
 rwa [List.length_map] at this
theorem ji_start {h:HierD} {N:List GNode} {P:List (Int×Int)} {p ty:List Int} {ar:List (List (Int×Int))} (hj:JI h N P p ty ar []) {a b:Int} (ha:0≤a∧a < (N.length:Int)) (hb:0≤b∧b < (N.length:Int)):JI h N (P++[(a,b)]) p ty ar [(a,b)]:=by
 obtain ⟨nty,fo,lp,lt,la,wr,tyr,arr,srt,sp,st,sa,co⟩:=hj
 have hE:∀ {x y},EG N.length p [] x y→EG N.length p [(a,b)] x y:=fun {x y} g=>g.mono (fun x y r x0 x1 y0 y1 h1 h2=>.cls x0 x1 y0 y1 h1 h2) (fun x y hxy=>by cases hxy)
 refine ⟨nty,fo,lp,lt,la,fun w hw=>?_,tyr,arr,srt,fun q hq=>?_,st,fun x r x0 x1 hr y hy=>?_,fun X v hX hv=>?_⟩
 ·have e:w=(a,b):=by simpa using hw
  subst e
  exact ⟨ha,hb⟩
 ·rcases List.mem_append.1 hq with hq | hq
  ·exact hE (sp q hq)
  ·have e:q=(a,b):=by simpa using hq
   subst e
   exact .wt (by simp)
 ·obtain ⟨u,h1,h2⟩:=sa x r x0 x1 hr y hy
  exact ⟨u,h1,hE h2⟩
 ·obtain ⟨c1,c2,c3,c4⟩:=co X v hX ⟨hv.rng,hv.ty,hv.arc,fun q hq=>hv.eq q (List.mem_append_left _ hq)⟩
  refine ⟨c1,fun w hw=>?_,c3,c4⟩
  have e:w=(a,b):=by simpa using hw
  subst e
  exact hv.eq _ (by simp)
def clJ (h:HierD) (p ty:List Int) (ar:List (List (Int×Int))):List (Nat×Obj):=[(101,.box 94 true [.p T29 h,.sr 102 T3 0 p.length,.sr 103 T3 0 ty.length,.sr 104 T86 0 ar.length]),(102,.arr 3 T3 p),(103,.arr 3 T3 ty),(104,.arr 86 T86 ar)]
theorem join_ok (h:HierD) (hk:HOk h) {N:List GNode} {P:List (Int×Int)} {p ty:List Int} {ar:List (List (Int×Int))} (hj:JI h N P p ty ar []) {a b:Int} (ha:0≤a∧a < (N.length:Int)) (hb:0≤b∧b < (N.length:Int)) (hN:N.length≤10000) (hF:(featsN N).length≤1000000) :
  CallM Tryz.prog 61 [.bp 101 [] 0,.p T3 a,.p T3 b] (clJ h p ty ar) [101]
  (fun res objs'=>(res=.p .bool true∧∃ p' ty' ar',objs'=clJ h p' ty' ar'∧JI h N (P++[(a,b)]) p' ty' ar' [])∨(res=.p .bool false∧(∃ p' ty' ar',objs'=clJ h p' ty' ar')∧∀ X v,TyOk h X→¬ XOk h N (P++[(a,b)]) X v)):=by
 refine fnM_ok Tryz.func61 (by kernel_rfl) rfl Tryz.ntmps61 (by simp only [List.length_cons,List.length_nil];omega) (by kernel_rfl) rfl rfl (tyTab_ok []) fns_nil ?_
 intro w0 K O0 ρ0 hc hok1 hok2
 have hh:h.1.length≤100000:=Nat.le_trans hk.2 (by omega)
 have hhc:∀ x∈h.1,x.2.1.length≤100000:=fun x hx=>Nat.le_trans (hk.1.wid x.2.1 (List.mem_map.2 ⟨x,hx,rfl⟩)) (by omega)
 have hj0:=ji_start hj ha hb
 generalize hQ:P++[(a,b)]=Q at *
 have hBB:N.length * ((featsN N).length + 1)≤10000 * 1000001:=Nat.mul_le_mul hN (by omega)
 simp only [clJ,argEnv]
 repeat' (first | exact trivial | refine eS rfl ?_ | refine ev_out_inv ?_ | refine rX [0,1,2,3,6,7,8,9,10,11,19,48] hc ?_ ?_ | (refine rC (fun hcond=>?_) (fun hcond=>?_)<;>try (cases hcond;done)))
 refine ev_loop (ι:={s:(List Int×List Int×List (List (Int×Int)))×(List (Int×Int)×Nat) // JI h N Q s.1.1 s.1.2.1 s.1.2.2 (s.2.1.take s.2.2)∧s.2.2≤s.2.1.length∧nR s.1.1 * ((featsN N).length + 1) + s.2.2≤N.length * ((featsN N).length + 1) + 1}) (fun s=>⟨[(3,.bp 3 [] 0),(7,.bp 7 [] 0),(8,.clo 101 [3,7])],[(101,.box 94 true [.p T29 h,.sr 102 T3 0 s.1.1.1.length,.sr 103 T3 0 s.1.1.2.1.length,.sr 104 T86 0 s.1.1.2.2.length]),(102,.arr 3 T3 s.1.1.1),(103,.arr 3 T3 s.1.1.2.1),(104,.arr 86 T86 s.1.1.2.2),(3,.box 91 false [.bp 101 [] 0]),(7,.box 159 false [.sr 15 T158 0 s.1.2.2]),(15,.arr 158 T158 s.1.2.1)]⟩) (fun s=>nR s.1.1.1 * ((featsN N).length + 1) + s.1.2.2) ⟨((p,ty,ar),([(a,b)],1)),hj0,by simp,by have:=Nat.mul_le_mul_right ((featsN N).length + 1) (nR_le p);rw [hj.lp] at this;simp only;omega⟩ (ent_match [(101,.nm 101),(102,.nm 102),(103,.nm 103),(104,.nm 104),(3,.nm 3),(7,.nm 7),(15,.nm 15)] rfl rfl ?_ ?_) (fun s=>?_)
 ·first | exact eN | refine eM ?_
 ·first | exact eN | refine eM ?_
 ·obtain ⟨⟨⟨q,tq,aq⟩,V,k⟩,hJ,hkl,hB⟩:=s
  simp only at hJ hkl hB ⊢
  repeat' (first | exact trivial | refine eS rfl ?_ | refine ev_out_inv ?_ | refine rX [0,1,2,3,6,7,8,9,10,11,19,48] hc ?_ ?_ | (refine rC (fun hcond=>?_) (fun hcond=>?_)<;>try (cases hcond;done)))
  ·exact eV
  ·exact eV
  ·have hk0:0 < k:=Int.ofNat_lt.1 hcond
   have hkm:((k:Int) - 1).toNat=k - 1:=by omega
   have hV:=take_snoc V (0,0) (k:=k - 1) (by omega)
   rw [show k - 1 + 1=k by omega] at hV
   rw [hkm]
   generalize hst:V.getD (k - 1) (0,0)=st at *
   obtain ⟨s,t⟩:=st
   rw [hV] at hJ
   obtain ⟨⟨s0,s1⟩,t0,t1⟩:=hJ.wr (s,t) (by simp)
   simp only at s0 s1 t0 t1
   obtain ⟨rk,fo⟩:=hJ.fo
   have ql:=hJ.lp
   refine ev_mix drawsAny hc 8 [([0,1,2],3),([4,5,6],7)] [] (by kernel_rfl) (mxA ?_ ?_)
   ·trivial
   ·refine mxC hc (find_ok h tq aq rk fo s0 (by rw [ql];exact s1)) [(1,.nm 101),(2,.nm 102),(3,.nm 103),(4,.nm 104)] [102,103,104] ?_ ?_ ?_
    ·first | exact eN | refine eM ?_
    ·simp only [clO]
     first | exact eN | refine eM ?_
    ·rintro _ _ ⟨q1,r1,rfl,rfl,fo1,sm1,rt1⟩
     refine ⟨[(101,.nm 1),(102,.nm 2),(103,.nm 3),(104,.nm 4)],.p T3 r1,[(101,.box 94 true [.p T29 h,.sr 102 T3 0 q1.length,.sr 103 T3 0 tq.length,.sr 104 T86 0 aq.length]),(102,.arr 3 T3 q1),(103,.arr 3 T3 tq),(104,.arr 86 T86 aq)],rfl,rfl,?_,?_,rfl,rfl,rfl,?_⟩
     ·simp only [clO]
      first | exact eN | refine eM ?_
     ·first | exact eN | refine eM ?_
     ·refine mxA ?_ ?_
      ·trivial
      ·refine mxC hc (find_ok h tq aq rk fo1 t0 (by rw [← sm1.1,ql];exact t1)) [(1,.nm 101),(2,.nm 102),(3,.nm 103),(4,.nm 104)] [102,103,104] ?_ ?_ ?_
       ·first | exact eN | refine eM ?_
       ·simp only [clO]
        first | exact eN | refine eM ?_
       ·rintro _ _ ⟨q2,r2,rfl,rfl,fo2,sm2,rt2⟩
        refine ⟨[(101,.nm 1),(102,.nm 2),(103,.nm 3),(104,.nm 4)],.p T3 r2,[(101,.box 94 true [.p T29 h,.sr 102 T3 0 q2.length,.sr 103 T3 0 tq.length,.sr 104 T86 0 aq.length]),(102,.arr 3 T3 q2),(103,.arr 3 T3 tq),(104,.arr 86 T86 aq)],rfl,rfl,?_,?_,rfl,rfl,rfl,?_⟩
        ·simp only [clO]
         first | exact eN | refine eM ?_
        ·first | exact eN | refine eM ?_
        ·refine mxE [0,1,2,3,6,7,8,9,10,11,19,48] hc ?_ ?_ ?_
         ·trivial
         ·trivial
         ·repeat' (first | exact trivial | refine eS rfl ?_ | refine ev_out_inv ?_ | refine rX [0,1,2,3,6,7,8,9,10,11,19,48] hc ?_ ?_ | (refine rC (fun hcond=>?_) (fun hcond=>?_)<;>try (cases hcond;done)))
          have hJ2:=ji_same (sm1.trans sm2) ⟨rk,fo2⟩ hJ
          have sm:=sm1.trans sm2
          have hs2:=(sm.2 s r1 s0 (by rw [ql];exact s1)).1 rt1
          have ht2:=(sm2.2 t r2 t0 (by rw [← sm1.1,ql];exact t1)).1 rt2
          have q2l:=hJ2.lp
          have g1:=rt_rng fo2 s0 (by rw [q2l];exact s1) hs2
          have g2:=rt_rng fo2 t0 (by rw [q2l];exact t1) ht2
          refine evP hc 4 ?_ ?_
          ·trivial
          ·by_cases he:r1=r2
           ·subst he
            rw [show (r1 != r1)=false from bne_self_eq_false r1]
            refine rL [0,1,2,3,6,7,8,9,10,11,19,48] hc ?_ ?_
            ·trivial
            ·repeat' (first | exact trivial | refine eS rfl ?_ | refine ev_out_inv ?_ | refine rX [0,1,2,3,6,7,8,9,10,11,19,48] hc ?_ ?_ | (refine rC (fun hcond=>?_) (fun hcond=>?_)<;>try (cases hcond;done)))
             have hJ3:=ji_skip hJ2 hs2 ht2
             have hn:=nR_same sm
             refine ⟨⟨((q2,tq,aq),V,k - 1),hJ3,by simp only;omega,by simp only;rw [hn];omega⟩,by simp only;rw [hn];omega,ent_match [(101,.nm 101),(102,.nm 102),(103,.nm 103),(104,.nm 104),(3,.nm 3),(7,.nm 7),(15,.nm 15)] rfl rfl ?_ ?_⟩
             ·first | exact eN | refine eM ?_
             ·first | exact eN | refine eM ?_
           ·rw [show (r1 != r2)=true by simpa using he]
            refine rN 3 hc ?_ ?_
            ·trivial
            ·have hla:=fun r:Int=>str_len (hJ2.srt r.toNat) (fun a ha=>(hJ2.arr r.toNat a ha).2)
             refine clG hc (merge_ok h hh hhc q2 tq aq V (k - 1) (by omega) (by omega) g1.1 g1.2 g2.1 g2.2 (by rw [hJ2.lt,q2l]) (by rw [hJ2.la,q2l]) (hJ2.tyr r1 g1.1 (by rw [← q2l];exact g1.2)) (hJ2.tyr r2 g2.1 (by rw [← q2l];exact g2.2)) (Nat.le_trans (hla r1) (by omega)) (Nat.le_trans (hla r2) (by omega))) [(1,.nm 101),(2,.nm 102),(3,.nm 103),(4,.nm 104),(5,.nm 3),(6,.nm 7),(7,.nm 15)] [102,103,104,15] ?_ ?_ ?_
             ·first | exact eN | refine eM ?_
             ·simp only [mgO]
              first | exact eN | refine eM ?_
             ·rintro res objs' (⟨e1,rfl,rfl⟩ | ⟨e1,rfl,W',hi',hw1,hw2,rfl⟩)
              ·refine ⟨[(101,.nm 1),(102,.nm 2),(103,.nm 3),(104,.nm 4),(3,.nm 5),(7,.nm 6),(15,.nm 7)],.p .bool false,[(101,.box 94 true [.p T29 h,.sr 102 T3 0 q2.length,.sr 103 T3 0 tq.length,.sr 104 T86 0 aq.length]),(102,.arr 3 T3 q2),(103,.arr 3 T3 tq),(104,.arr 86 T86 aq),(3,.box 91 false [.bp 101 [] 0]),(7,.box 159 false [.sr 15 T158 0 (k - 1)]),(15,.arr 158 T158 V)],rfl,rfl,?_,?_,rfl,rfl,?_⟩
               ·simp only [mgO]
                first | exact eN | refine eM ?_
               ·first | exact eN | refine eM ?_
               ·refine rL [0,1,2,3,6,7,8,9,10,11,19,48] hc ?_ ?_
                ·trivial
                ·repeat' (first | exact trivial | refine eS rfl ?_ | refine ev_out_inv ?_ | refine rX [0,1,2,3,6,7,8,9,10,11,19,48] hc ?_ ?_ | (refine rC (fun hcond=>?_) (fun hcond=>?_)<;>try (cases hcond;done)))
                 refine Ev.ent (σ':=⟨[(6,.p .bool false)],clJ h q2 tq aq⟩) ?_ (ent_match [(101,.nm 101),(102,.nm 102),(103,.nm 103),(104,.nm 104)] rfl rfl ?_ ?_)
                 ·exact ev_finM hc [.tmp 6] rfl (.inl rfl) (.p .bool false) eT (.inr ⟨rfl,⟨q2,tq,aq,rfl⟩,fun X v hX hv=>by
                   have:=(ji_meet hk hJ2 hs2 ht2 hX hv).2.1
                   rw [e1] at this
                   cases this⟩)
                 ·unfold clJ
                  first | exact eN | refine eM ?_
                 ·first | exact eN | refine eM ?_
              ·refine ⟨[(101,.nm 1),(102,.nm 2),(103,.nm 3),(104,.nm 4),(3,.nm 5),(7,.nm 6),(15,.nm 7)],.p .bool true,[(101,.box 94 true [.p T29 h,.sr 102 T3 0 (q2.set r2.toNat r1).length,.sr 103 T3 0 (tq.set r1.toNat (meetF h (tq.getD r1.toNat 0) (tq.getD r2.toNat 0)).1).length,.sr 104 T86 0 (aq.set r1.toNat (mrgF (aq.getD r1.toNat []) (aq.getD r2.toNat [])).1).length]),(102,.arr 3 T3 (q2.set r2.toNat r1)),(103,.arr 3 T3 (tq.set r1.toNat (meetF h (tq.getD r1.toNat 0) (tq.getD r2.toNat 0)).1)),(104,.arr 86 T86 (aq.set r1.toNat (mrgF (aq.getD r1.toNat []) (aq.getD r2.toNat [])).1)),(3,.box 91 false [.bp 101 [] 0]),(7,.box 159 false [.sr 15 T158 0 hi']),(15,.arr 158 T158 W')],rfl,rfl,?_,?_,rfl,rfl,?_⟩
               ·simp only [mgO]
                first | exact eN | refine eM ?_
               ·first | exact eN | refine eM ?_
               ·refine rL [0,1,2,3,6,7,8,9,10,11,19,48] hc ?_ ?_
                ·trivial
                ·repeat' (first | exact trivial | refine eS rfl ?_ | refine ev_out_inv ?_ | refine rX [0,1,2,3,6,7,8,9,10,11,19,48] hc ?_ ?_ | (refine rC (fun hcond=>?_) (fun hcond=>?_)<;>try (cases hcond;done)))
                 have hJ3:=ji_merge hk hJ2 hs2 ht2 he e1
                 rw [← hw2] at hJ3
                 have hn:=nR_same sm
                 have hn2:=nR_link (a:=r1) g2.1 g2.2 ht2.root he
                 have hpr:(mrgF (aq.getD r1.toNat []) (aq.getD r2.toNat [])).2.length≤(featsN N).length:=Nat.le_trans mrg_num (hla r1)
                 have hwl:=congrArg List.length hw2
                 rw [List.length_append,List.length_take,List.length_take] at hwl
                 have hm:nR q2 * ((featsN N).length + 1)=nR (q2.set r2.toNat r1) * ((featsN N).length + 1) + ((featsN N).length + 1):=by rw [← hn2,Nat.add_mul,Nat.one_mul]
                 rw [hn] at hm
                 refine ⟨⟨((q2.set r2.toNat r1,tq.set r1.toNat (meetF h (tq.getD r1.toNat 0) (tq.getD r2.toNat 0)).1,aq.set r1.toNat (mrgF (aq.getD r1.toNat []) (aq.getD r2.toNat [])).1),W',hi'),hJ3,hw1,by simp only;omega⟩,by simp only;omega,ent_match [(101,.nm 101),(102,.nm 102),(103,.nm 103),(104,.nm 104),(3,.nm 3),(7,.nm 7),(15,.nm 15)] rfl rfl ?_ ?_⟩
                 ·first | exact eN | refine eM ?_
                 ·first | exact eN | refine eM ?_
  ·have hk0:k=0:=by
    have:=Int.ofNat_le.1 hcond
    omega
   subst hk0
   rw [List.take_zero] at hJ
   refine Ev.ent (σ':=⟨[(6,.p .bool true)],clJ h q tq aq⟩) ?_ (ent_match [(101,.nm 101),(102,.nm 102),(103,.nm 103),(104,.nm 104)] rfl rfl ?_ ?_)
   ·exact ev_finM hc [.tmp 6] rfl (.inl rfl) (.p .bool true) eT (.inl ⟨rfl,q,tq,aq,rfl,hJ⟩)
   ·unfold clJ
    first | exact eN | refine eM ?_
   ·first | exact eN | refine eM ?_
end
/- Plain: the graph of the classes. -/
section
open Classical in
/-- The node that stands for a node. -/
noncomputable def rtF (p:List Int) (x:Int):Int:=if h:∃ r,Rt p x r then h.choose else x
theorem rtF_eq {p:List Int} {x r:Int} (h:Rt p x r):rtF p x=r:=by
 unfold rtF
 rw [dif_pos ⟨r,h⟩]
 exact (Exists.choose_spec (p:=fun r=>Rt p x r) ⟨r,h⟩).det h
theorem rtF_rt {p:List Int} {rk:Int→Nat} (hp:Fo p rk) {x:Int} (x0:0≤x) (x1:x < (p.length:Int)):Rt p x (rtF p x):=by
 obtain ⟨r,h,-,-⟩:=hp.root x0 x1
 rw [rtF_eq h]
 exact h
noncomputable def quo (p ty:List Int) (ar:List (List (Int×Int))):List GNode:=(List.range p.length).map fun k=>(ty.getD k 0,(ar.getD k []).map fun a=>(a.1,rtF p a.2))
theorem quo_len (p ty:List Int) (ar:List (List (Int×Int))):(quo p ty ar).length=p.length:=by simp [quo]
theorem quo_get {p ty:List Int} {ar:List (List (Int×Int))} {n:Int} (n0:0≤n) (n1:n < (p.length:Int)):(quo p ty ar).getD n.toNat (0,[])=(ty.getD n.toNat 0,(ar.getD n.toNat []).map fun a=>(a.1,rtF p a.2)):=by
 unfold quo
 rw [List.getD_eq_getElem?_getD,List.getElem?_map,List.getElem?_range (by omega)]
 rfl
def numM (len:Nat) (o:List Int):List Int:=(List.range len).map fun (k:Nat)=>if (k:Int)∈o then ((o.idxOf (k:Int):Nat):Int) else -1
theorem numM_len (len:Nat) (o:List Int):(numM len o).length=len:=by simp [numM]
theorem numM_get {len:Nat} {o:List Int} {n:Int} (n0:0≤n) (n1:n < (len:Int)):(numM len o).getD n.toNat 0=if n∈o then (o.idxOf n:Int) else -1:=by
 unfold numM
 rw [List.getD_eq_getElem?_getD,List.getElem?_map,List.getElem?_range (by omega)]
 simp only [Option.map_some,Option.getD_some]
 rw [show ((n.toNat:Nat):Int)=n by omega]
theorem idxOf_snoc {o:List Int} {n:Int} (h:n ∉ o):(o++[n]).idxOf n=o.length:=by
 rw [List.idxOf_append,if_neg h]
 simp
theorem idxOf_pre {o t:List Int} {n:Int} (h:n∈o):(o++t).idxOf n=o.idxOf n:=by
 rw [List.idxOf_append,if_pos h]
theorem numM_set {len:Nat} {o:List Int} {n:Int} (n0:0≤n) (n1:n < (len:Int)) (h:n ∉ o):(numM len o).set n.toNat (o.length:Int)=numM len (o++[n]):=by
 apply List.ext_getElem
 ·simp [numM]
 ·intro i h1 h2
  rw [List.getElem_set]
  simp only [numM,List.getElem_map,List.getElem_range]
  by_cases e:n.toNat=i
  ·rw [if_pos e]
   have e2:(i:Int)=n:=by omega
   rw [e2,if_pos (by simp),idxOf_snoc h]
  ·rw [if_neg e]
   have e2:(i:Int)≠n:=by omega
   by_cases h3:(i:Int)∈o
   ·rw [if_pos h3,if_pos (by simp [h3]),idxOf_pre h3]
   ·rw [if_neg h3,if_neg (by simp [h3,e2])]
theorem idxZ_pre {o t:List Int} {x:Int} (h:x∈o):idxZ (o++t) x=idxZ o x:=by
 unfold idxZ
 rw [if_pos (List.mem_append_left _ h),if_pos h,idxOf_pre h]
theorem foldD_closed {f:List GNode} (hf:GoodF f) (k:Nat):∀ (l:List (Int×Int)) (t:List Int),(∀ a∈l,0≤a.2∧a.2 < (f.length:Int))→DOk f t→f.length - t.length≤k →
  (∀ a∈l,a.2∈l.foldl (stepD f k) t)∧∀ x∈l.foldl (stepD f k) t,x∈t∨∀ a∈(f.getD x.toNat (0,[])).2,a.2∈l.foldl (stepD f k) t:=by
 intro l
 induction l with
 | nil=>exact fun t _ _ _=>⟨fun a ha=>(by cases ha),fun x hx=>.inl hx⟩
 | cons a l ih =>
  intro t hl ht hlen
  simp only [List.foldl_cons]
  have hstep:DOk f (stepD f k t a)∧t <+: stepD f k t a∧a.2∈stepD f k t a∧∀ x∈stepD f k t a,x∈t∨∀ b∈(f.getD x.toNat (0,[])).2,b.2∈stepD f k t a:=by
   unfold stepD
   split
   ·rename_i hn
    exact ⟨ht,List.prefix_refl _,hn,fun x hx=>.inl hx⟩
   ·rename_i hn
    have q:=hl a (by simp)
    obtain ⟨g1,g2⟩:=dfs_ok hf k t a.2 ht q.1 q.2 hn
    obtain ⟨g3,g4⟩:=dfs_closed hf k t a.2 ht q.1 q.2 hn hlen
    exact ⟨g1,g2,g3,g4⟩
  obtain ⟨g1,g2,g3,g4⟩:=hstep
  have hle:=g2.length_le
  obtain ⟨i1,i2⟩:=ih (stepD f k t a) (fun b hb=>hl b (by simp [hb])) g1 (by omega)
  obtain ⟨_,j2⟩:=foldD_ok (dfs_ok hf k) l (stepD f k t a) (fun b hb=>hl b (by simp [hb])) g1
  refine ⟨fun b hb=>?_,fun x hx=>?_⟩
  ·rcases List.mem_cons.1 hb with rfl | hb
   ·exact j2.subset g3
   ·exact i1 b hb
  ·rcases i2 x hx with hx | hx
   ·rcases g4 x hx with hx | hx
    ·exact .inl hx
    ·exact .inr fun b hb=>j2.subset (hx b hb)
   ·exact .inr hx
def outD (f:List GNode) (o o':List Int):List GNode:=(o'.drop o.length).map (nodeD f o')
theorem nodeD_pre {f:List GNode} {o t:List Int} {x:Int} (h:∀ a∈(f.getD x.toNat (0,[])).2,a.2∈o):nodeD f (o++t) x=nodeD f o x:=by
 unfold nodeD
 refine congrArg _ (List.map_congr_left fun a ha=>?_)
 unfold renD
 rw [idxZ_pre (h a ha)]
theorem outD_app {f:List GNode} {o1 o2 o3:List Int} (h12:o1 <+: o2) (h23:o2 <+: o3) (hc:∀ x∈o2,x∈o1∨∀ a∈(f.getD x.toNat (0,[])).2,a.2∈o2) (hn:o2.Nodup):outD f o1 o2++outD f o2 o3=outD f o1 o3:=by
 obtain ⟨t,rfl⟩:=h12
 obtain ⟨s,rfl⟩:=h23
 unfold outD
 rw [List.drop_left,List.drop_left,List.append_assoc,List.drop_left,← List.append_assoc,List.map_append]
 congr 1
 refine List.map_congr_left fun x hx=>?_
 refine (nodeD_pre fun a ha=>?_).symm
 rcases hc x (List.mem_append_right _ hx) with h | h
 ·exact absurd rfl ((List.nodup_append.1 hn).2.2 x h x hx)
 ·exact h a ha
theorem outD_self (f:List GNode) (o:List Int):outD f o o=[]:=by
 unfold outD
 rw [List.drop_length]
 rfl
theorem getD_map2 {α β:Type} (f:α→β) {l:List α} (d:α) (e:β) {i:Nat} (h:i < l.length):(l.map f).getD i e=f (l.getD i d):=by
 simp [List.getD_eq_getElem?_getD,List.getElem?_eq_getElem h]
structure Plan (Q:List GNode) (o1:List Int) (L:List (Int×Int)) (j:Nat) (oo:Nat→List Int):Prop where
 zero:oo 0=o1
 succ:∀ i,i < L.length→oo (i + 1)=stepD Q j (oo i) (0,(L.getD i (0,0)).2)
 dok:∀ i,DOk Q (oo i)
 pre:∀ i,o1 <+: oo i
 nxt:∀ i,oo i <+: oo (i + 1)
 tgt:∀ i,∀ a∈L.take i,a.2∈oo i
 cls:∀ i,∀ x∈oo i,x∈o1∨∀ a∈(Q.getD x.toNat (0,[])).2,a.2∈oo i
 last:oo L.length=L.foldl (stepD Q j) o1
theorem plan_ok {Q:List GNode} (hQ:GoodF Q) {o1:List Int} {L:List (Int×Int)} {j:Nat} (hL:∀ a∈L,0≤a.2∧a.2 < (Q.length:Int)) (h1:DOk Q o1) (hj:Q.length - o1.length≤j):Plan Q o1 L j (fun i=>(L.take i).foldl (stepD Q j) o1):=by
 have hl:=fun i=>fun a (ha:a∈L.take i)=>hL a (List.mem_of_mem_take ha)
 have hs:∀ i,i < L.length→(L.take (i + 1)).foldl (stepD Q j) o1=stepD Q j ((L.take i).foldl (stepD Q j) o1) (0,(L.getD i (0,0)).2):=fun i hi=>fold_take (stepD Q j) L (0,0) o1 hi
 have hd:=fun i=>foldD_ok (dfs_ok hQ j) (L.take i) o1 (hl i) h1
 refine ⟨rfl,hs,fun i=>(hd i).1,fun i=>(hd i).2,fun i=>?_,fun i=>(foldD_closed hQ j _ o1 (hl i) h1 hj).1,fun i=>(foldD_closed hQ j _ o1 (hl i) h1 hj).2,by simp only [List.take_length]⟩
 by_cases h:i < L.length
 ·show _ <+: (L.take (i + 1)).foldl (stepD Q j) o1
  rw [hs i h]
  have hr:=hL _ (mem_of_take_succ L (0,0) h)
  exact (foldD_ok (dfs_ok hQ j) [(0,(L.getD i (0,0)).2)] _ (fun a ha=>by
   have e:a=(0,(L.getD i (0,0)).2):=by simpa using ha
   subst e
   exact hr) (hd i).1).2
 ·show (L.take i).foldl (stepD Q j) o1 <+: (L.take (i + 1)).foldl (stepD Q j) o1
  rw [List.take_of_length_le (by omega),List.take_of_length_le (by omega)]
  exact List.prefix_refl _
theorem set_mid {α:Type} (l:List α) (x y:α) (t:List α) {k:Nat} (hk:k=l.length):(l++[x]++t).set k y=l++y :: t:=by
 subst hk
 rw [List.append_assoc,List.set_append_right _ _ (by omega),Nat.sub_self]
 rfl
theorem outD_node {Q:List GNode} {o o':List Int} {n:Int} (h:o++[n] <+: o'):outD Q o o'=nodeD Q o' n :: outD Q (o++[n]) o':=by
 obtain ⟨t,rfl⟩:=h
 unfold outD
 rw [List.drop_left,List.append_assoc,List.drop_left]
 rfl
end
/- Functions of unify.classes: graph's visit. -/
section
def uO (h:HierD) (p ty:List Int) (ar:List (List (Int×Int))) (M:List Int) (out:List GNode):List (Nat×Obj):=[(101,.box 94 true [.p T29 h,.sr 102 T3 0 p.length,.sr 103 T3 0 ty.length,.sr 104 T86 0 ar.length]),(102,.arr 3 T3 p),(103,.arr 3 T3 ty),(104,.arr 86 T86 ar),(105,.box 91 false [.bp 101 [] 0]),(106,.box 40 false [.sr 107 T3 0 M.length]),(107,.arr 3 T3 M),(108,.box 25 true [.sr 109 T88 0 out.length]),(109,.arr 88 T88 out),(110,.box 160 false [.clo 103 [105,106,108,110]])]
def VisC (h:HierD) (p0 ty:List Int) (ar:List (List (Int×Int))) (k:Nat):Prop:=∀ (p o:List Int) (out:List GNode) (n:Int),(∃ rk,Fo p rk)→SameRt p0 p→DOk (quo p0 ty ar) o→out.length=o.length→0≤n→n < (p0.length:Int)→p0.length - o.length≤k →
 CallM Tryz.prog 103 [.p T3 n,.bp 105 [] 0,.bp 106 [] 0,.bp 108 [] 0,.bp 110 [] 0] (uO h p ty ar (numM p0.length o) out) [101,105,106,108,110]
  (fun res objs'=>∃ p',(∃ rk,Fo p' rk)∧SameRt p0 p'∧res=.p T3 (idxZ (stepD (quo p0 ty ar) k o (0,rtF p0 n)) (rtF p0 n))∧objs'=uO h p' ty ar (numM p0.length (stepD (quo p0 ty ar) k o (0,rtF p0 n))) (out++outD (quo p0 ty ar) o (stepD (quo p0 ty ar) k o (0,rtF p0 n))))
theorem vis_step (h:HierD) {p0 ty:List Int} {ar:List (List (Int×Int))} (hf0:∃ rk,Fo p0 rk) (hQ:GoodF (quo p0 ty ar)) (htl:ty.length=p0.length) (hal:ar.length=p0.length) (har:∀ k,∀ a∈ar.getD k [],0≤a.2∧a.2 < (p0.length:Int)) (k:Nat) (ih:∀ j,k=j + 1→VisC h p0 ty ar j):VisC h p0 ty ar k:=by
 intro p o out n hfo hsm hdo hol n0 n1 hk
 obtain ⟨rk,fo⟩:=hfo
 obtain ⟨rk0,fo0⟩:=hf0
 have hr0:=rtF_rt fo0 n0 n1
 have hr1:=rt_rng fo0 n0 n1 hr0
 have hp:=hQ.1
 rw [quo_len] at hp
 have hml:=numM_len p0.length o
 generalize hn2:rtF p0 n=n2 at *
 refine fnM_ok Tryz.func103 (by kernel_rfl) rfl Tryz.ntmps103 (by simp only [List.length_cons,List.length_nil];omega) (by kernel_rfl) rfl rfl (tyTab_ok []) fns_nil ?_
 intro w0 K O0 ρ0 hc hok1 hok2
 simp only [uO,argEnv]
 repeat' (first | exact trivial | refine eS rfl ?_ | refine ev_out_inv ?_ | refine rX [0,1,2,3,4,6,7,8,10,18,49,50,51,52] hc ?_ ?_ | (refine rC (fun hcond=>?_) (fun hcond=>?_)<;>try (cases hcond;done)))
 refine cP 2 hc ?_ ?_
 ·trivial
 ·refine rM hc (find_ok h ty ar rk fo n0 (by rw [← hsm.1];exact n1)) [(1,.nm 101),(2,.nm 102),(3,.nm 103),(4,.nm 104)] [102,103,104] ?_ ?_ ?_
  ·first | exact eN | refine eM ?_
  ·simp only [clO]
   first | exact eN | refine eM ?_
  ·rintro _ _ ⟨p1,r1,rfl,rfl,fo1,sm1,rt1⟩
   have sm2:=hsm.trans sm1
   have e:=((hsm.2 n n2 n0 n1).1 hr0).det rt1
   subst e
   refine ⟨[(101,.nm 1),(102,.nm 2),(103,.nm 3),(104,.nm 4)],.p T3 n2,[(101,.box 94 true [.p T29 h,.sr 102 T3 0 p1.length,.sr 103 T3 0 ty.length,.sr 104 T86 0 ar.length]),(102,.arr 3 T3 p1),(103,.arr 3 T3 ty),(104,.arr 86 T86 ar)],rfl,rfl,?_,?_,rfl,rfl,?_⟩
   ·simp only [clO]
    first | exact eN | refine eM ?_
   ·first | exact eN | refine eM ?_
   ·refine rL [0,1,2,3,4,6,7,8,10,18,49,50,51,52] hc ?_ ?_
    ·trivial
    ·repeat' (first | exact trivial | refine eS rfl ?_ | refine ev_out_inv ?_ | refine rX [0,1,2,3,4,6,7,8,10,18,49,50,51,52] hc ?_ ?_ | (refine rC (fun hcond=>?_) (fun hcond=>?_)<;>try (cases hcond;done)))
     ·exact ⟨hr1.1,by rw [hml];exact hr1.2⟩
     ·exact ⟨hr1.1,by rw [hml];exact hr1.2⟩
     ·rw [numM_get hr1.1 hr1.2] at hcond
      have hin:n2∈o:=Classical.byContradiction fun e=>by rw [if_neg e] at hcond;omega
      have hst:stepD (quo p0 ty ar) k o (0,n2)=o:=if_pos hin
      have hid:idxZ o n2=(numM p0.length o).getD n2.toNat 0:=by
       rw [numM_get hr1.1 hr1.2,if_pos hin]
       unfold idxZ
       rw [if_pos hin]
      refine Ev.ent (σ':=⟨[(6,.p T3 (idxZ o n2))],uO h p1 ty ar (numM p0.length o) out⟩) ?_ (ent_match [(101,.nm 101),(102,.nm 102),(103,.nm 103),(104,.nm 104),(105,.nm 105),(106,.nm 106),(107,.nm 107),(108,.nm 108),(109,.nm 109),(110,.nm 110)] rfl rfl ?_ ?_)
      ·refine ev_finM hc [.tmp 6] rfl (.inl rfl) (.p T3 (idxZ o n2)) eT ⟨p1,⟨rk,fo1⟩,sm2,by rw [hst],?_⟩
       rw [hst,outD_self,List.append_nil]
       rfl
      ·unfold uO
       first | exact eN | refine eM ?_
      ·first | exact eN | refine eM ?_
       exact hid.symm
     ·exact ⟨hr1.1,by rw [hml];exact hr1.2⟩
     ·refine ⟨⟨hr1.1,by rw [htl];exact hr1.2⟩,?_⟩
      have:=hdo.len
      rw [quo_len] at this
      simp only [maxN]
      omega
     ·exact ⟨hr1.1,by rw [hal];exact hr1.2⟩
     ·rw [numM_get hr1.1 hr1.2] at hcond
      have hno:n2 ∉ o:=fun e=>by rw [if_pos e] at hcond;omega
      have hd1:=hdo.snoc hr1.1 (by rw [quo_len];exact hr1.2) hno
      have hl1:=hd1.len
      rw [quo_len,List.length_append,List.length_singleton] at hl1
      obtain ⟨j,rfl⟩:∃ j,k=j + 1:=⟨k - 1,by omega⟩
      have hih:=ih j rfl
      have hnode:=quo_get (p:=p0) (ty:=ty) (ar:=ar) hr1.1 hr1.2
      have hxr:=fun a (ha:a∈ar.getD n2.toNat [])=>har n2.toNat a ha
      have hxl:(ar.getD n2.toNat []).length≤100000:=by
       have:=(hQ.2 _ (mem_of_take_succ (quo p0 ty ar) (0,[]) (k:=n2.toNat) (by rw [quo_len];omega))).1
       rw [hnode,List.length_map] at this
       exact this
      have hLr:∀ a∈((ar.getD n2.toNat []).map fun a=>(a.1,rtF p0 a.2)),0≤a.2∧a.2 < ((quo p0 ty ar).length:Int):=fun a ha=>by
       refine arcs_in' hQ (n:=n2) ?_
       rw [hnode]
       exact ha
      obtain ⟨oo,hplan⟩:∃ oo,Plan (quo p0 ty ar) (o++[n2]) ((ar.getD n2.toNat []).map fun a=>(a.1,rtF p0 a.2)) j oo:=⟨_,plan_ok hQ (j:=j) hLr hd1 (by rw [quo_len,List.length_append,List.length_singleton];omega)⟩
      have hstep:stepD (quo p0 ty ar) (j + 1) o (0,n2)=((ar.getD n2.toNat []).map fun a=>(a.1,rtF p0 a.2)).foldl (stepD (quo p0 ty ar) j) (o++[n2]):=by
       unfold stepD
       rw [if_neg hno]
       show dfs (quo p0 ty ar) (j + 1) o n2=_
       rw [dfs_succ,hnode]
       rfl
      rw [← hplan.last,List.length_map] at hstep
      have hlg:=fun (i:Nat) (hi:i < (ar.getD n2.toNat []).length)=>show (((ar.getD n2.toNat []).map fun a=>(a.1,rtF p0 a.2)).getD i (0,0))=(((ar.getD n2.toNat []).getD i (0,0)).1,rtF p0 ((ar.getD n2.toNat []).getD i (0,0)).2) by
       exact getD_map2 (fun a:Int×Int=>(a.1,rtF p0 a.2)) (0,0) (0,0) hi
      rw [hol,numM_set hr1.1 hr1.2 hno]
      generalize hxs:ar.getD n2.toNat []=xs at *
      refine ev_loop (ι:={s:Nat×List Int // s.1≤xs.length∧(∃ rk,Fo s.2 rk)∧SameRt p0 s.2}) (fun s=>⟨[(0,.p T3 n2),(1,.bp 105 [] 0),(2,.bp 106 [] 0),(3,.bp 108 [] 0),(4,.bp 110 [] 0),(7,.p (.int .i64) (o.length:Int)),(8,.sr 64 T108 0 ((xs.take s.1.1).map fun a=>(a.1,idxZ (oo s.1.1) (rtF p0 a.2))).length),(49,.p T86 xs),(50,.p (.int .i64) (xs.length:Int)),(51,.p (.int .i64) (s.1.1:Int))],uO h s.1.2 ty ar (numM p0.length (oo s.1.1)) (out++[(ty.getD n2.toNat 0,[])]++outD (quo p0 ty ar) (o++[n2]) (oo s.1.1))++[(64,.arr 108 T108 ((xs.take s.1.1).map fun a=>(a.1,idxZ (oo s.1.1) (rtF p0 a.2))))]⟩) (fun s=>xs.length - s.1.1) ⟨(0,p1),Nat.zero_le _,⟨rk,fo1⟩,sm2⟩ (ent_match [(101,.nm 101),(102,.nm 102),(103,.nm 103),(104,.nm 104),(105,.nm 105),(106,.nm 106),(107,.nm 107),(108,.nm 108),(109,.nm 109),(110,.nm 110),(64,.nil)] rfl rfl ?_ ?_) (fun s=>?_)
      ·unfold uO
       simp only [hplan.zero,outD_self,List.append_nil]
       first | exact eN | refine eM ?_
       exact ⟨by rw [numM_len,numM_len],hol.symm⟩
      ·first | exact eN | refine eM ?_
      ·obtain ⟨⟨i,q⟩,hi,⟨rkq,hfq⟩,hsq⟩:=s
       have hpre:=hplan.pre i
       have hdi:=hplan.dok i
       have hple:=hpre.length_le
       have hdl:=hdi.len
       rw [List.length_append,List.length_singleton] at hple
       rw [quo_len] at hdl
       have hlen:(out++[(ty.getD n2.toNat 0,[])]++outD (quo p0 ty ar) (o++[n2]) (oo i)).length=(oo i).length:=by
        unfold outD
        simp only [List.length_append,List.length_singleton,List.length_map,List.length_drop]
        omega
       have hlen2:out.length + 1 + (outD (quo p0 ty ar) (o++[n2]) (oo i)).length=(oo i).length:=by
        rw [← hlen,List.length_append,List.length_append,List.length_singleton]
       simp only [uO]
       repeat' (first | exact trivial | refine eS rfl ?_ | refine ev_out_inv ?_ | refine rX [0,1,2,3,4,6,7,8,10,18,49,50,51,52] hc ?_ ?_ | (refine rC (fun hcond=>?_) (fun hcond=>?_)<;>try (cases hcond;done)))
       ·exact hcond
       ·have hiL:i < xs.length:=Int.ofNat_lt.1 hcond
        have hxi:=hxr _ (mem_of_take_succ xs (0,0) hiL)
        have hsuc:=hplan.succ i (by rw [List.length_map];exact hiL)
        rw [hlg i hiL] at hsuc
        have happ:=outD_app hpre (hplan.nxt i) (hplan.cls i) hdi.nd
        have hpre2:=hplan.pre (i + 1)
        have hlen3:out.length + 1 + (outD (quo p0 ty ar) (o++[n2]) (oo (i + 1))).length=(oo (i + 1)).length:=by
         have h1:=hpre2.length_le
         rw [List.length_append,List.length_singleton] at h1
         unfold outD
         simp only [List.length_append,List.length_singleton,List.length_map,List.length_drop]
         omega
        have eA:((xs.take i).map fun a=>(a.1,idxZ (oo i) (rtF p0 a.2)))++[((xs.getD i (0,0)).1,idxZ (oo (i + 1)) (rtF p0 (xs.getD i (0,0)).2))]=(xs.take (i + 1)).map fun a=>(a.1,idxZ (oo (i + 1)) (rtF p0 a.2)):=by
         rw [map_take_succ _ xs (0,0) hiL]
         congr 1
         refine List.map_congr_left fun a ha=>?_
         obtain ⟨t,ht⟩:=hplan.nxt i
         rw [← ht,idxZ_pre (hplan.tgt i (a.1,rtF p0 a.2) (by rw [← List.map_take];exact List.mem_map.2 ⟨a,ha,rfl⟩))]
        rw [hlen2]
        refine ev_mix drawsAny hc 10 [([3,4,5],6),([1,2],7),([],8),([0],9)] [] (by kernel_rfl) (mxA ?_ ?_)
        ·trivial
        ·refine mxC hc (hih q (oo i) (out++[(ty.getD n2.toNat 0,[])]++outD (quo p0 ty ar) (o++[n2]) (oo i)) (xs.getD i (0,0)).2 ⟨rkq,hfq⟩ hsq hdi hlen hxi.1 hxi.2 (by omega)) [(101,.nm 101),(102,.nm 102),(103,.nm 103),(104,.nm 104),(105,.nm 105),(106,.nm 106),(107,.nm 107),(108,.nm 108),(109,.nm 109),(110,.nm 110)] [102,103,104,107,109] ?_ ?_ ?_
         ·first | exact eN | refine eM ?_
         ·simp only [uO]
          first | exact eN | refine eM ?_
          exact hlen2.symm
         ·rintro _ _ ⟨p',⟨rk',fo'⟩,sm',rfl,rfl⟩
          rw [← hsuc,List.append_assoc _ _ (outD _ (oo i) _),happ]
          refine ⟨[(101,.nm 101),(102,.nm 102),(103,.nm 103),(104,.nm 104),(105,.nm 105),(106,.nm 106),(107,.nm 107),(108,.nm 108),(109,.nm 109),(110,.nm 110)],.p T3 (idxZ (oo (i + 1)) (rtF p0 (xs.getD i (0,0)).2)),[(101,.box 94 true [.p T29 h,.sr 102 T3 0 p'.length,.sr 103 T3 0 ty.length,.sr 104 T86 0 ar.length]),(102,.arr 3 T3 p'),(103,.arr 3 T3 ty),(104,.arr 86 T86 ar),(105,.box 91 false [.bp 101 [] 0]),(106,.box 40 false [.sr 107 T3 0 (numM p0.length (oo (i + 1))).length]),(107,.arr 3 T3 (numM p0.length (oo (i + 1)))),(108,.box 25 true [.sr 109 T88 0 (oo (i + 1)).length]),(109,.arr 88 T88 (out++[(ty.getD n2.toNat 0,[])]++outD (quo p0 ty ar) (o++[n2]) (oo (i + 1)))),(110,.box 160 false [.clo 103 [105,106,108,110]])],rfl,rfl,?_,?_,rfl,rfl,rfl,?_⟩
          ·simp only [uO]
           first | exact eN | refine eM ?_
           exact hlen3
          ·first | exact eN | refine eM ?_
          ·refine mxA ?_ ?_
           ·trivial
           ·refine mxL hc [] ?_ ?_
            ·trivial
            ·refine mxA ?_ ?_
             ·trivial
             ·refine mxL hc [] ?_ ?_
              ·trivial
              ·refine mxA ?_ ?_
               ·trivial
               ·refine mxL hc [64] ?_ ?_
                ·rw [List.length_map,List.length_take]
                 simp only [maxN]
                 omega
                ·refine mxE [0,1,2,3,4,6,7,8,10,18,49,50,51,52] hc ?_ ?_ ?_
                 ·trivial
                 ·trivial
                 ·repeat' (first | exact trivial | refine eS rfl ?_ | refine ev_out_inv ?_ | refine rX [0,1,2,3,4,6,7,8,10,18,49,50,51,52] hc ?_ ?_ | (refine rC (fun hcond=>?_) (fun hcond=>?_)<;>try (cases hcond;done)))
                  ·exact eV
                  ·refine ⟨⟨(i + 1,p'),hiL,⟨rk',fo'⟩,sm'⟩,by simp only;omega,ent_match [(101,.nm 101),(102,.nm 102),(103,.nm 103),(104,.nm 104),(105,.nm 105),(106,.nm 106),(107,.nm 107),(108,.nm 108),(109,.nm 109),(110,.nm 110),(64,.nm 64)] rfl rfl ?_ ?_⟩
                   ·simp only [uO,← eA]
                    first | exact eN | refine eM ?_
                    exact hlen3.symm
                   ·simp only [← eA]
                    first | exact eN | refine eM ?_
       ·exact Int.ofNat_lt.2 (by omega)
       ·have hie:i=xs.length:=by
         have:=Int.ofNat_le.1 hcond
         omega
        subst hie
        obtain ⟨t,ht⟩:=hpre
        have hid:idxZ (oo xs.length) n2=(o.length:Int):=by
         rw [← ht,idxZ_pre (by simp)]
         unfold idxZ
         rw [if_pos (by simp),idxOf_snoc hno]
        have hnd:nodeD (quo p0 ty ar) (oo xs.length) n2=(ty.getD n2.toNat 0,xs.map fun a=>(a.1,idxZ (oo xs.length) (rtF p0 a.2))):=by
         unfold nodeD
         rw [hnode]
         simp only [List.map_map]
         rfl
        have hgd:(out++[(ty.getD n2.toNat 0,([]:List (Int×Int)))]++outD (quo p0 ty ar) (o++[n2]) (oo xs.length)).getD o.length (0,[])=(ty.getD n2.toNat 0,[]):=by
         rw [← hol]
         simp [List.getD_eq_getElem?_getD]
        have hout:=outD_node (Q:=quo p0 ty ar) (hplan.pre xs.length)
        rw [hnd] at hout
        rw [List.take_length,hgd,set_mid out _ _ _ hol.symm,← hout]
        have hlen4:out.length + 1 + (outD (quo p0 ty ar) (o++[n2]) (oo xs.length)).length=(out++outD (quo p0 ty ar) o (oo xs.length)).length:=by
         rw [hout]
         simp only [List.length_append,List.length_cons]
         omega
        rw [hlen4]
        refine Ev.ent (σ':=⟨[(6,.p T3 (idxZ (oo xs.length) n2))],uO h q ty ar (numM p0.length (oo xs.length)) (out++outD (quo p0 ty ar) o (oo xs.length))⟩) ?_ (ent_match [(101,.nm 101),(102,.nm 102),(103,.nm 103),(104,.nm 104),(105,.nm 105),(106,.nm 106),(107,.nm 107),(108,.nm 108),(109,.nm 109),(110,.nm 110)] rfl rfl ?_ ?_)
        ·exact ev_finM hc [.tmp 6] rfl (.inl rfl) (.p T3 (idxZ (oo xs.length) n2)) eT ⟨q,⟨rkq,hfq⟩,hsq,by rw [hstep],by rw [hstep];rfl⟩
        ·unfold uO
         first | exact eN | refine eM ?_
        ·first | exact eN | refine eM ?_
         exact hid.symm
theorem vis_ok (h:HierD) {p0 ty:List Int} {ar:List (List (Int×Int))} (hf0:∃ rk,Fo p0 rk) (hQ:GoodF (quo p0 ty ar)) (htl:ty.length=p0.length) (hal:ar.length=p0.length) (har:∀ k,∀ a∈ar.getD k [],0≤a.2∧a.2 < (p0.length:Int)):∀ k,VisC h p0 ty ar k
 | 0=>vis_step h hf0 hQ htl hal har 0 (fun j e=>by cases e)
 | k + 1=>vis_step h hf0 hQ htl hal har (k + 1) (fun j e=>by cases e;exact vis_ok h hf0 hQ htl hal har k)
end
/- Plain: grammarlabref11.Close finds the least closed relation. -/
section
inductive EQ (n:Nat) (o:List Int) (W:List (Int×Int)):Int→Int→Prop
 | cls {x y:Int} (x0:0≤x) (x1:x < (n:Int)) (y0:0≤y) (y1:y < (n:Int)) (h:o.getD x.toNat 0=o.getD y.toNat 0):EQ n o W x y
 | wt {x y:Int} (h:(x,y)∈W):EQ n o W x y
 | symm {x y:Int} (h:EQ n o W x y):EQ n o W y x
 | trans {x y z:Int} (h:EQ n o W x y) (g:EQ n o W y z):EQ n o W x z
theorem EQ.mono {n:Nat} {o o':List Int} {W W':List (Int×Int)} (h1:∀ x y,0≤x→x < (n:Int)→0≤y→y < (n:Int)→o.getD x.toNat 0=o.getD y.toNat 0→EQ n o' W' x y) (h2:∀ x y,(x,y)∈W→EQ n o' W' x y) {x y:Int} (h:EQ n o W x y):EQ n o' W' x y:=by
 induction h with
 | cls x0 x1 y0 y1 h=>exact h1 _ _ x0 x1 y0 y1 h
 | wt h=>exact h2 _ _ h
 | symm _ ih=>exact .symm ih
 | trans _ _ ih1 ih2=>exact .trans ih1 ih2
theorem EQ.nil {n:Nat} {o:List Int} {x y:Int} (h:EQ n o [] x y):o.getD x.toNat 0=o.getD y.toNat 0:=by
 induction h with
 | cls _ _ _ _ h=>exact h
 | wt h=>cases h
 | symm _ ih=>exact ih.symm
 | trans _ _ ih1 ih2=>exact ih1.trans ih2
structure JC (h:HierD) (N:List GNode) (P:List (Int×Int)) (o:List Int) (ar:List (List (Int×Int))) (W:List (Int×Int)):Prop where
 ci:CI N.length o ar W
 nd:∀ k,((ar.getD k []).map (·.1)).Nodup
 sp:∀ q∈P,EQ N.length o W q.1 q.2
 sa:∀ x,0≤x→x < (N.length:Int)→∀ a∈arcsAt N x,∃ t,(a.1,t)∈ar.getD (o.getD x.toNat 0).toNat []∧EQ N.length o W a.2 t
 co:∀ X v,XOk h N P X v→(∀ x,0≤x→x < (N.length:Int)→v x=v (o.getD x.toNat 0))∧(∀ w∈W,v w.1=v w.2)∧(∀ r,0≤r→r < (N.length:Int)→o.getD r.toNat 0=r→∀ a∈ar.getD r.toNat [],tgtF (arcsAt X (v r)) a.1=v a.2)
section
variable {h:HierD} {N:List GNode} {P:List (Int×Int)} {o:List Int} {ar:List (List (Int×Int))} {W:List (Int×Int)} {w:Int×Int}
theorem lowhigh (o:List Int) (x y:Int):(lowF o x y=o.getD x.toNat 0∧highF o x y=o.getD y.toNat 0)∨(lowF o x y=o.getD y.toNat 0∧highF o x y=o.getD x.toNat 0):=by
 unfold lowF highF
 by_cases e1:o.getD y.toNat 0 < o.getD x.toNat 0
 ·rw [if_pos e1,if_neg (by omega)];exact .inr ⟨rfl,rfl⟩
 ·rw [if_neg e1]
  by_cases e2:o.getD x.toNat 0 < o.getD y.toNat 0
  ·rw [if_pos e2];exact .inl ⟨rfl,rfl⟩
  ·rw [if_neg e2];exact .inl ⟨rfl,by omega⟩
theorem jc_same (hj:JC h N P o ar (w :: W)) (he:lowF o w.1 w.2=highF o w.1 w.2):JC h N P o ar W:=by
 have hw:=hj.ci.wr w (by simp)
 have hee:o.getD w.1.toNat 0=o.getD w.2.toNat 0:=by
  rcases lowhigh o w.1 w.2 with ⟨h1,h2⟩ | ⟨h1,h2⟩
  ·rw [← h1,← h2,he]
  ·rw [← h1,← h2,he]
 have hm:∀ {x y},EQ N.length o (w :: W) x y→EQ N.length o W x y:=fun {x y} g=>g.mono (fun x y x0 x1 y0 y1 e=>.cls x0 x1 y0 y1 e) fun x y hxy=>by
  rcases List.mem_cons.1 hxy with e | e
  ·subst e;exact .cls hw.1.1 hw.1.2 hw.2.1 hw.2.2 hee
  ·exact .wt e
 refine ⟨ci_tail hj.ci,hj.nd,fun q hq=>hm (hj.sp q hq),fun x x0 x1 a ha=>?_,fun X v hv=>?_⟩
 ·obtain ⟨t,h1,h2⟩:=hj.sa x x0 x1 a ha
  exact ⟨t,h1,hm h2⟩
 ·obtain ⟨h1,h2,h3⟩:=hj.co X v hv
  exact ⟨h1,fun u hu=>h2 u (List.mem_cons_of_mem _ hu),h3⟩
theorem both_nd {l g:List (Int×Int)} (hl:(l.map (·.1)).Nodup) (hg:(g.map (·.1)).Nodup):((bothA l g).map (·.1)).Nodup:=by
 unfold bothA
 rw [List.map_append,List.nodup_append]
 refine ⟨hl,(hg.sublist ((List.filter_sublist).map _)),fun x hx y hy e=>?_⟩
 obtain ⟨a,ha,rfl⟩:=List.mem_map.1 hx
 obtain ⟨b,hb,rfl⟩:=List.mem_map.1 hy
 have hb:=(List.mem_filter.1 hb).2
 rw [tar_some a ha e] at hb
 cases hb
theorem jc_merge (hj:JC h N P o ar (w :: W)) (hne:lowF o w.1 w.2≠highF o w.1 w.2) :
  JC h N P (mergeF o w.1 w.2) (ar.set (lowF o w.1 w.2).toNat (bothA (ar.getD (lowF o w.1 w.2).toNat []) (ar.getD (highF o w.1 w.2).toNat []))) (W++addedW (ar.getD (lowF o w.1 w.2).toNat []) (ar.getD (highF o w.1 w.2).toNat [])):=by
 have hw:=hj.ci.wr w (by simp)
 have hLH:=lh_of hj.ci hw.1.1 hw.1.2 hw.2.1 hw.2.2 hne
 have hci:=ci_merge (ci_tail hj.ci) hLH
 have hg:=fun (k:Nat) (hk:k < N.length)=>merge_get (m:=w.1) (n:=w.2) (show k < o.length by rw [hj.ci.lo];exact hk)
 have hlh:=lowhigh o w.1 w.2
 have hla:=hj.ci.la
 have hrng:=fun x=>hj.ci.rng (x:=x)
 generalize mergeF o w.1 w.2=o' at *
 generalize lowF o w.1 w.2=lo at *
 generalize highF o w.1 w.2=hi at *
 obtain ⟨l0,lt,h1,rl,rh⟩:=hLH
 have hgx:∀ x,0≤x→x < (N.length:Int)→o'.getD x.toNat 0=oneF hi lo (o.getD x.toNat 0):=fun x x0 x1=>hg _ (by omega)
 have hww:o'.getD w.1.toNat 0=o'.getD w.2.toNat 0:=by
  rw [hgx _ hw.1.1 hw.1.2,hgx _ hw.2.1 hw.2.2]
  rcases hlh with ⟨e1,e2⟩ | ⟨e1,e2⟩
  ·rw [← e1,← e2,one_eq,one_ne (by omega)]
  ·rw [← e1,← e2,one_eq,one_ne (by omega)]
 generalize hW':W++addedW (ar.getD lo.toNat []) (ar.getD hi.toNat [])=W' at *
 have hm:∀ {x y},EQ N.length o (w :: W) x y→EQ N.length o' W' x y:=fun {x y} g=>g.mono (fun x y x0 x1 y0 y1 e=>.cls x0 x1 y0 y1 (by rw [hgx x x0 x1,hgx y y0 y1,e])) fun x y hxy=>by
  rcases List.mem_cons.1 hxy with e | e
  ·subst e;exact .cls hw.1.1 hw.1.2 hw.2.1 hw.2.2 hww
  ·exact .wt (by rw [← hW'];exact List.mem_append_left _ e)
 have hadd:∀ x∈ar.getD hi.toNat [],(tarG (ar.getD lo.toNat []) x.1).2=true→((tarG (ar.getD lo.toNat []) x.1).1,x.2)∈W':=fun x hx ht=>by
  rw [← hW']
  exact List.mem_append_right _ (List.mem_filterMap.2 ⟨x,hx,by rw [if_pos ht]⟩)
 refine ⟨hci,fun k=>?_,fun q hq=>hm (hj.sp q hq),fun x x0 x1 a ha=>?_,fun X v hv=>?_⟩
 ·rw [getD_set _ _ _ _ (by omega)]
  split
  ·exact both_nd (hj.nd _) (hj.nd _)
  ·exact hj.nd k
 ·obtain ⟨t,g1,g2⟩:=hj.sa x x0 x1 a ha
  have g2:=hm g2
  rw [hgx x x0 x1]
  obtain ⟨r0,r1,r2⟩:=hrng x x0 x1
  by_cases e:o.getD x.toNat 0=hi
  ·rw [e,one_eq]
   rw [e] at g1
   rw [getD_set _ _ _ _ (by omega),if_pos rfl]
   cases ht:(tarG (ar.getD lo.toNat []) a.1).2 with
   | true=>exact ⟨_,List.mem_append_left _ (tar_mem ht),g2.trans (.symm (.wt (hadd (a.1,t) g1 ht)))⟩
   | false=>exact ⟨t,List.mem_append_right _ (List.mem_filter.2 ⟨g1,by show (!(tarG (ar.getD lo.toNat []) a.1).2)=true;rw [ht];rfl⟩),g2⟩
  ·rw [one_ne e,getD_set _ _ _ _ (by omega)]
   split
   ·rename_i e2
    refine ⟨t,List.mem_append_left _ ?_,g2⟩
    rw [← e2];exact g1
   ·exact ⟨t,g1,g2⟩
 ·obtain ⟨c1,c2,c3⟩:=hj.co X v hv
  have hv1:v lo=v hi:=by
   have e:=c2 w (by simp)
   have e1:=c1 w.1 hw.1.1 hw.1.2
   have e2:=c1 w.2 hw.2.1 hw.2.2
   rcases hlh with ⟨e3,e4⟩ | ⟨e3,e4⟩
   ·rw [e3,e4,← e1,← e2,e]
   ·rw [e3,e4,← e1,← e2,e]
  refine ⟨fun x x0 x1=>?_,fun u hu=>?_,fun r r0 r1 hr a ha=>?_⟩
  ·rw [hgx x x0 x1,c1 x x0 x1]
   by_cases e:o.getD x.toNat 0=hi
   ·rw [e,one_eq,hv1]
   ·rw [one_ne e]
  ·rw [← hW'] at hu
   rcases List.mem_append.1 hu with hu | hu
   ·exact c2 u (List.mem_cons_of_mem _ hu)
   ·obtain ⟨a,ha,he⟩:=List.mem_filterMap.1 hu
    split at he
    ·rename_i ht
     cases he
     have e1:=c3 lo l0 (by omega) rl _ (tar_mem ht)
     have e2:=c3 hi (by omega) h1 rh a ha
     rw [← hv1,e1] at e2
     exact e2
    ·cases he
  ·rw [getD_set _ _ _ _ (by omega)] at ha
   rw [hgx r r0 r1] at hr
   have hro:o.getD r.toNat 0=r:=by
    by_cases e:o.getD r.toNat 0=hi
    ·rw [e,one_eq] at hr
     rw [← hr];exact rl
    ·rw [one_ne e] at hr;exact hr
   split at ha
   ·rename_i e2
    have e2:r=lo:=by omega
    rcases List.mem_append.1 ha with ha | ha
    ·rw [e2];exact c3 lo l0 (by omega) rl a ha
    ·rw [e2,hv1];exact c3 hi (by omega) h1 rh a (List.mem_filter.1 ha).1
   ·exact c3 r r0 r1 hro a ha
end
theorem jc_close {h:HierD} {N:List GNode} {P:List (Int×Int)}:∀ (k:Nat) {o:List Int} {ar:List (List (Int×Int))} {W:List (Int×Int)},JC h N P o ar W→wsum o ar + W.length≤k→∃ ar',JC h N P (closeG k o ar W) ar' []
 | 0,o,ar,W,hj,hk=>by
  have:W=[]:=List.eq_nil_of_length_eq_zero (by omega)
  subst this
  exact ⟨ar,hj⟩
 | k + 1,o,ar,[],hj,hk=>⟨ar,hj⟩
 | k + 1,o,ar,w :: W,hj,hk=>by
  simp only [closeG]
  simp only [List.length_cons] at hk
  split
  ·rename_i he
   exact jc_close k (jc_same hj he) (by omega)
  ·rename_i hne
   have hw:=hj.ci.wr w (by simp)
   have hLH:=lh_of hj.ci hw.1.1 hw.1.2 hw.2.1 hw.2.2 hne
   have hws:=wsum_merge hj.ci hLH
   exact jc_close k (jc_merge hj hne) (by rw [List.length_append];omega)
theorem todo_mem {c:List Int} {n:Nat} {w:Int×Int} (hw:w∈todoG c n):∃ k:Nat,k < n∧c.getD k 0≠(k:Int)∧w=((k:Int),c.getD k 0):=by
 unfold todoG at hw
 obtain ⟨k,hk,rfl⟩:=List.mem_map.1 hw
 obtain ⟨h1,h2⟩:=List.mem_filter.1 hk
 exact ⟨k,List.mem_range.1 h1,by simpa using h2,rfl⟩
theorem mem_todo {c:List Int} {n k:Nat} (hk:k < n) (h:c.getD k 0≠(k:Int)):((k:Int),c.getD k 0)∈todoG c n:=by
 unfold todoG
 exact List.mem_map.2 ⟨k,List.mem_filter.2 ⟨List.mem_range.2 hk,by simpa using h⟩,rfl⟩
theorem apart_merge {n:Nat} {x y:Int} (x0:0≤x) (x1:x < (n:Int)) (y0:0≤y) (y1:y < (n:Int)):((lowF (apartF n) x y=x∧highF (apartF n) x y=y)∨(lowF (apartF n) x y=y∧highF (apartF n) x y=x))∧∀ k:Nat,k < n→(mergeF (apartF n) x y).getD k 0=oneF (highF (apartF n) x y) (lowF (apartF n) x y) (k:Int):=by
 have e1:(apartF n).getD x.toNat 0=x:=by rw [apartF_get (by omega)];omega
 have e2:(apartF n).getD y.toNat 0=y:=by rw [apartF_get (by omega)];omega
 refine ⟨?_,fun k hk=>?_⟩
 ·have:=lowhigh (apartF n) x y
  rw [e1,e2] at this
  exact this
 ·rw [merge_get (by rw [apartF_len];exact hk),apartF_get hk]
theorem jc_start {h:HierD} {N:List GNode} (hg:GoodF N) (hs:∀ x∈N,Str x.2) {x y:Int} (x0:0≤x) (x1:x < (N.length:Int)) (y0:0≤y) (y1:y < (N.length:Int)):JC h N [(x,y)] (apartF N.length) (arcsL N) (todoG (mergeF (apartF N.length) x y) N.length):=by
 obtain ⟨hlh,hmg⟩:=apart_merge x0 x1 y0 y1
 have hml:=merge_len (apartF N.length) x y
 rw [apartF_len] at hml
 generalize mergeF (apartF N.length) x y=c at *
 generalize lowF (apartF N.length) x y=lo at *
 generalize highF (apartF N.length) x y=hi at *
 have hcr:∀ z∈c,0≤z∧z < (N.length:Int):=fun z hz=>by
  obtain ⟨k,hk,rfl⟩:=List.mem_iff_getElem.1 hz
  have:=hmg k (by omega)
  rw [List.getD_eq_getElem?_getD,List.getElem?_eq_getElem hk] at this
  simp only [Option.getD_some] at this
  rw [this]
  unfold oneF
  split
  ·rcases hlh with ⟨e,_⟩ | ⟨e,_⟩<;>rw [e]<;>omega
  ·omega
 have hxy:lo≠hi→(hi,lo)∈todoG c N.length:=fun hne=>by
  have h0:0≤hi∧hi < (N.length:Int):=by rcases hlh with ⟨_,e⟩ | ⟨_,e⟩<;>rw [e]<;>omega
  have e1:((hi.toNat:Nat):Int)=hi:=by omega
  have e2:=hmg hi.toNat (by omega)
  rw [e1,one_eq] at e2
  have:=mem_todo (c:=c) (n:=N.length) (k:=hi.toNat) (by omega) (by rw [e2,e1];exact hne)
  rw [e1,e2] at this
  exact this
 refine ⟨ci_start hg hcr hml,fun k=>?_,fun q hq=>?_,fun z z0 z1 a ha=>?_,fun X v hv=>?_⟩
 ·rw [arcsL_get]
  have:Str (N.getD k (0,[])).2:=by
   by_cases hk:k < N.length
   ·exact hs _ (mem_of_take_succ N (0,[]) hk)
   ·rw [List.getD_eq_getElem?_getD,List.getElem?_eq_none (by omega)];exact List.Pairwise.nil
  rw [List.Nodup,List.pairwise_map]
  exact this.imp fun h e=>by omega
 ·have:q=(x,y):=by simpa using hq
  subst this
  simp only
  by_cases e:lo=hi
  ·have:x=y:=by rcases hlh with ⟨e1,e2⟩ | ⟨e1,e2⟩<;>omega
   subst this
   exact .cls x0 x1 x0 x1 rfl
  ·rcases hlh with ⟨e1,e2⟩ | ⟨e1,e2⟩
   ·rw [← e1,← e2];exact .symm (.wt (hxy e))
   ·rw [← e1,← e2];exact .wt (hxy e)
 ·refine ⟨a.2,?_,?_⟩
  ·rw [apartF_get (by omega),arcsL_get,Int.toNat_natCast]
   exact ha
  ·have:=(hg.2 _ (mem_of_take_succ N (0,[]) (k:=z.toNat) (by omega))).2 a ha
   exact .cls this.1 this.2 this.1 this.2 rfl
 ·refine ⟨fun z z0 z1=>?_,fun w hw=>?_,fun r r0 r1 _ a ha=>?_⟩
  ·rw [apartF_get (by omega)]
   congr 1
   omega
  ·obtain ⟨k,hk,hne,rfl⟩:=todo_mem hw
   simp only
   rw [hmg k hk] at hne ⊢
   by_cases e:(k:Int)=hi
   ·rw [e,one_eq]
    have hq:=hv.eq (x,y) (by simp)
    simp only at hq
    rcases hlh with ⟨e1,e2⟩ | ⟨e1,e2⟩
    ·rw [e1,e2];exact hq.symm
    ·rw [e1,e2];exact hq
   ·rw [one_ne e] at hne
    exact absurd rfl hne
  ·rw [arcsL_get] at ha
   exact hv.arc r r0 r1 a ha
theorem close_law {h:HierD} {N:List GNode} (hg:GoodF N) (hs:∀ x∈N,Str x.2) {x y:Int} (x0:0≤x) (x1:x < (N.length:Int)) (y0:0≤y) (y1:y < (N.length:Int)):∃ ar,JC h N [(x,y)] (closeF N (mergeF (apartF N.length) x y)) ar [] :=
 jc_close _ (jc_start hg hs x0 x1 y0 y1) (Nat.le_refl _)
end
/- Functions of unify.classes: graph. -/
section
theorem numM_nil (len:Nat):numM len []=List.replicate len (-1):=by
 unfold numM
 apply List.ext_getElem
 ·simp
 ·intro i h1 h2
  simp
theorem fill_rep {α:Type} (x y:α) {n i:Nat} (h:i < n):(List.replicate i x++List.replicate (n - i) y).set i x=List.replicate (i + 1) x++List.replicate (n - (i + 1)) y:=by
 obtain ⟨m,hm⟩:∃ m,n - i=m + 1:=⟨n - i - 1,by omega⟩
 have hm2:n - (i + 1)=m:=by omega
 rw [hm,hm2,List.set_append_right _ _ (by simp),List.length_replicate,Nat.sub_self,List.replicate_succ,List.set_cons_zero,List.replicate_succ',List.append_assoc]
 rfl
theorem graph_ok (h:HierD) {p ty:List Int} {ar:List (List (Int×Int))} (hf0:∃ rk,Fo p rk) (hQ:GoodF (quo p ty ar)) (htl:ty.length=p.length) (hal:ar.length=p.length) (har:∀ k,∀ a∈ar.getD k [],0≤a.2∧a.2 < (p.length:Int)) {r:Int} (r0:0≤r) (r1:r < (p.length:Int)) :
  CallM Tryz.prog 62 [.bp 101 [] 0,.p T3 r] (clJ h p ty ar) [101]
  (fun res _=>res=.p T25 (canonicalF (quo p ty ar) (rtF p r))):=by
 have hvis:=vis_ok h hf0 hQ htl hal har p.length p [] [] r hf0 (SameRt.refl p) ⟨by simp,fun x hx=>by cases hx⟩ rfl r0 r1 (by simp)
 have hcan:outD (quo p ty ar) [] (stepD (quo p ty ar) p.length [] (0,rtF p r))=canonicalF (quo p ty ar) (rtF p r):=by
  have e:stepD (quo p ty ar) p.length [] (0,rtF p r)=dfs (quo p ty ar) p.length [] (rtF p r):=if_neg (by simp)
  rw [e]
  unfold outD canonicalF
  rw [quo_len]
  rfl
 rw [List.nil_append,hcan,numM_nil] at hvis
 have hpl:=hQ.1
 rw [quo_len] at hpl
 generalize canonicalF (quo p ty ar) (rtF p r)=G at *
 generalize idxZ _ _=z at hvis
 generalize numM _ _=M at hvis
 refine fnM_ok Tryz.func62 (by kernel_rfl) rfl Tryz.ntmps62 (by simp only [List.length_cons,List.length_nil];omega) (by kernel_rfl) rfl rfl (tyTab_ok []) fns_nil ?_
 intro w0 K O0 ρ0 hc hok1 hok2
 simp only [clJ,argEnv]
 repeat' (first | exact trivial | refine eS rfl ?_ | refine ev_out_inv ?_ | refine rX [0,1,2,4,5,6,7,8,16,17,18] hc ?_ ?_ | (refine rC (fun hcond=>?_) (fun hcond=>?_)<;>try (cases hcond;done)))
 ·simp only [maxN];omega
 ·refine ev_loop (ι:={i:Nat // i≤p.length}) (fun i=>⟨[(0,.bp 101 [] 0),(1,.p T3 r),(2,.bp 2 [] 0),(4,.bp 4 [] 0),(5,.bp 5 [] 0),(16,.p (.int .i64) (p.length:Int)),(17,.p (.int .i64) (i.1:Int))],[(5,.box 40 false [.sr 14 T3 0 p.length]),(14,.arr 3 T3 (List.replicate i.1 (-1)++List.replicate (p.length - i.1) 0)),(4,.box 25 true [.raw (.slice none 0 0)]),(2,.box 91 false [.bp 101 [] 0]),(101,.box 94 true [.p T29 h,.sr 102 T3 0 p.length,.sr 103 T3 0 ty.length,.sr 104 T86 0 ar.length]),(102,.arr 3 T3 p),(103,.arr 3 T3 ty),(104,.arr 86 T86 ar)]⟩) (fun i=>p.length - i.1) ⟨0,by omega⟩ (ent_match [(5,.nm 5),(14,.nm 14),(4,.nm 4),(2,.nm 2),(101,.nm 101),(102,.nm 102),(103,.nm 103),(104,.nm 104)] rfl rfl ?_ ?_) (fun i=>?_)
  ·first | exact eN | refine eM ?_
   rfl
  ·first | exact eN | refine eM ?_
  ·obtain ⟨i,hi⟩:=i
   simp only
   repeat' (first | exact trivial | refine eS rfl ?_ | refine ev_out_inv ?_ | refine rX [0,1,2,4,5,6,7,8,16,17,18] hc ?_ ?_ | (refine rC (fun hcond=>?_) (fun hcond=>?_)<;>try (cases hcond;done)))
   ·exact hcond
   ·exact eV
   ·have hip:i < p.length:=Int.ofNat_lt.1 hcond
    refine ⟨⟨i + 1,hip⟩,by simp only;omega,ent_match [(5,.nm 5),(14,.nm 14),(4,.nm 4),(2,.nm 2),(101,.nm 101),(102,.nm 102),(103,.nm 103),(104,.nm 104)] rfl rfl ?_ ?_⟩
    ·first | exact eN | refine eM ?_
     exact fill_rep _ _ hip
    ·first | exact eN | refine eM ?_
   ·have hie:i=p.length:=by
     have:=Int.ofNat_le.1 hcond
     omega
    subst hie
    rw [Nat.sub_self,List.replicate_zero,List.append_nil]
    refine cP 2 hc ?_ ?_
    ·trivial
    ·refine rM hc (hvis) [(101,.nm 101),(102,.nm 102),(103,.nm 103),(104,.nm 104),(105,.nm 2),(106,.nm 5),(107,.nm 14),(108,.nm 7),(109,.nil),(110,.nm 8)] [102,103,104,14] ?_ ?_ ?_
     ·first | exact eN | refine eM ?_
     ·simp only [uO]
      first | exact eN | refine eM ?_
      exact List.length_replicate.symm
     ·rintro _ _ ⟨p',hfo',sm',rfl,rfl⟩
      refine ⟨[(101,.nm 101),(102,.nm 102),(103,.nm 103),(104,.nm 104),(2,.nm 105),(5,.nm 106),(14,.nm 107),(7,.nm 108),(120,.nm 109),(8,.nm 110)],.p T3 z,[(101,.box 94 true [.p T29 h,.sr 102 T3 0 p'.length,.sr 103 T3 0 ty.length,.sr 104 T86 0 ar.length]),(102,.arr 3 T3 p'),(103,.arr 3 T3 ty),(104,.arr 86 T86 ar),(2,.box 91 false [.bp 101 [] 0]),(5,.box 40 false [.sr 14 T3 0 M.length]),(14,.arr 3 T3 M),(7,.box 25 true [.sr 120 T88 0 G.length]),(120,.arr 88 T88 G),(8,.box 160 false [.clo 103 [2,5,7,8]])],rfl,rfl,?_,?_,rfl,rfl,evL_end ?_⟩
      ·simp only [uO]
       first | exact eN | refine eM ?_
      ·first | exact eN | refine eM ?_
      ·refine frzE [120] ?_
       repeat' (first | exact trivial | refine eS rfl ?_ | refine ev_out_inv ?_ | refine rX [0,1,2,4,5,6,7,8,16,17,18] hc ?_ ?_ | (refine rC (fun hcond=>?_) (fun hcond=>?_)<;>try (cases hcond;done)))
       exact ev_finM hc [.cell 4 25] rfl (.inl rfl) (.p T25 G) eT rfl
end
/- Plain: the graph of the classes is the most general structure into which the nodes go so that the pairs are one. -/
section
structure OrdR (f:List GNode) (r:Int) (o:List Int):Prop where
 ok:DOk f o
 zero:o.getD 0 0=r∧0 < o.length
 cl:∀ n∈o,∀ a∈arcsAt f n,a.2∈o
theorem ordR_of {f:List GNode} (hf:GoodF f) {r:Int} (r0:0≤r) (r1:r < (f.length:Int)):OrdR f r (dfs f f.length [] r):=by
 have h1:=dfs_ok hf f.length [] r (dOk_nil f) r0 r1 (by simp)
 have h2:=dfs_closed hf f.length [] r (dOk_nil f) r0 r1 (by simp) (by simp)
 have h3:[r] <+: dfs f f.length [] r:=by
  obtain ⟨k,hk⟩:∃ k,f.length=k + 1:=⟨f.length - 1,by omega⟩
  rw [hk,dfs_succ]
  exact (foldD_ok (dfs_ok hf k) _ _ (fun a ha=>arcs_in' hf ha) ((dOk_nil f).snoc r0 r1 (by simp))).2
 refine ⟨h1.1,?_,fun n hn a ha=>?_⟩
 ·obtain ⟨t,ht⟩:=h3
  rw [← ht]
  exact ⟨rfl,by simp⟩
 ·rcases h2.2 n hn with h | h
  ·cases h
  ·exact h a ha
theorem canR_get {f:List GNode} {r:Int} {i:Nat} (hi:i < (dfs f f.length [] r).length):(canonicalF f r).getD i (0,[])=nodeD f (dfs f f.length [] r) ((dfs f f.length [] r).getD i 0):=by
 unfold canonicalF
 simp [List.getD_eq_getElem?_getD,hi]
theorem canR_len (f:List GNode) (r:Int):(canonicalF f r).length=(dfs f f.length [] r).length:=by simp [canonicalF]
def joinN (f g:List GNode):List GNode:=f++g.map fun x=>(x.1,shiftA f.length x.2)
theorem joinN_len (f g:List GNode):(joinN f g).length=f.length + g.length:=by simp [joinN]
theorem joinN_left {f g:List GNode} {x:Int} (x0:0≤x) (x1:x < (f.length:Int)):(joinN f g).getD x.toNat (0,[])=f.getD x.toNat (0,[]):=by
 unfold joinN
 rw [List.getD_eq_getElem?_getD,List.getD_eq_getElem?_getD,List.getElem?_append_left (by omega)]
theorem joinN_right {f g:List GNode} {y:Int} (y0:0≤y) (y1:y < (g.length:Int)):(joinN f g).getD ((f.length:Int) + y).toNat (0,[])=((g.getD y.toNat (0,[])).1,shiftA f.length (g.getD y.toNat (0,[])).2):=by
 unfold joinN
 have e:((f.length:Int) + y).toNat=f.length + y.toNat:=by omega
 rw [e,List.getD_eq_getElem?_getD,List.getElem?_append_right (by omega),Nat.add_sub_cancel_left]
 rw [← List.getD_eq_getElem?_getD]
 exact getD_map2 (fun x:GNode=>(x.1,shiftA f.length x.2)) (0,[]) (0,[]) (by omega)
theorem eg_rt {n:Nat} {p:List Int} {x y:Int} (h:EG n p [] x y):rtF p x=rtF p y:=by
 induction h with
 | cls _ _ _ _ h g=>rw [rtF_eq h,rtF_eq g]
 | wt h=>cases h
 | symm _ ih=>exact ih.symm
 | trans _ _ ih1 ih2=>exact ih1.trans ih2
noncomputable abbrev ordQ (p ty:List Int) (ar:List (List (Int×Int))):List Int:=dfs (quo p ty ar) (quo p ty ar).length [] (rtF p 0)
structure GenOk (h:HierD) (N:List GNode) (P:List (Int×Int)) (U:List GNode) (v:Int→Int):Prop where
 good:GoodF U
 pos:0 < U.length
 str:∀ x∈U,Str x.2
 feat:∀ x∈U,∀ a∈x.2,a.1∈featsN N
 ty:TyOk h U
 ro:RO U
 zero:v 0=0
 proj:XOk h N P U v
 least:∀ X w,TyOk h X→XOk h N P X w→w 0=0→∃ m,Hom h U X m
 len:U.length≤N.length
section
variable {h:HierD} {N:List GNode} {P:List (Int×Int)} {p ty:List Int} {ar:List (List (Int×Int))}
theorem reach_ord (hj:JI h N P p ty ar []) (hQ:GoodF (quo p ty ar)) (hN:0 < N.length):OrdR (quo p ty ar) (rtF p 0) (ordQ p ty ar):=by
 obtain ⟨rk,fo⟩:=hj.fo
 have lp:=hj.lp
 have:=rt_rng fo (x:=0) (by omega) (by omega) (rtF_rt fo (by omega) (by omega))
 exact ordR_of hQ this.1 (by rw [quo_len];exact this.2)
theorem reach_zero (hj:JI h N P p ty ar []) (hQ:GoodF (quo p ty ar)) (hN:0 < N.length):rtF p 0∈ordQ p ty ar:=by
 have ho:=reach_ord hj hQ hN
 have:=mem_of_take_succ (ordQ p ty ar) 0 ho.zero.2
 rw [ho.zero.1] at this
 exact this
theorem reach_eq (hj:JI h N P p ty ar []) {x y:Int} (hq:(x,y)∈P) (hx:rtF p x∈ordQ p ty ar):rtF p y∈ordQ p ty ar:=by
 rw [← eg_rt (hj.sp (x,y) hq)]
 exact hx
theorem reach_step (hj:JI h N P p ty ar []) (hQ:GoodF (quo p ty ar)) (hN:0 < N.length) {x:Int} (x0:0≤x) (x1:x < (N.length:Int)) (hx:rtF p x∈ordQ p ty ar) {a:Int×Int} (ha:a∈arcsAt N x):rtF p a.2∈ordQ p ty ar:=by
 obtain ⟨rk,fo⟩:=hj.fo
 have lp:=hj.lp
 obtain ⟨t,ht,he⟩:=hj.sa x _ x0 x1 (rtF_rt fo x0 (by omega)) a ha
 rw [eg_rt he]
 have hr:=rt_rng fo x0 (by omega) (rtF_rt fo x0 (by omega))
 refine (reach_ord hj hQ hN).cl _ hx (a.1,rtF p t) ?_
 rw [arcsAt,quo_get hr.1 hr.2]
 exact List.mem_map.2 ⟨(a.1,t),ht,rfl⟩
def Comp (N:List GNode) (k:Nat) (g:List GNode):Prop:=∀ i:Int,0≤i→i < (g.length:Int)→(k:Int) + i < (N.length:Int)∧N.getD ((k:Int) + i).toNat (0,[])=((g.getD i.toNat (0,[])).1,shiftA k (g.getD i.toNat (0,[])).2)
theorem reach_comp (hj:JI h N P p ty ar []) (hQ:GoodF (quo p ty ar)) (hN:0 < N.length) {k:Nat} {g:List GNode} (hc:Comp N k g) (rg:RO g) (hk:rtF p (k:Int)∈ordQ p ty ar):∀ (n:Nat) (i:Int),i.toNat≤n→0≤i→i < (g.length:Int)→rtF p ((k:Int) + i)∈ordQ p ty ar:=by
 intro n
 induction n with
 | zero =>
  intro i hn i0 i1
  have:i=0:=by omega
  subst this
  rw [Int.add_zero]
  exact hk
 | succ n ih =>
  intro i hn i0 i1
  by_cases hi:i=0
  ·subst hi
   rw [Int.add_zero]
   exact hk
  ·obtain ⟨j,j0,j1,a,ha,rfl⟩:=rg i (by omega) i1
   have hcj:=hc j j0 (by omega)
   have:=reach_step hj hQ hN (x:=(k:Int) + j) (by omega) hcj.1 (ih j (by omega) j0 (by omega)) (a:=(a.1,a.2 + (k:Int))) (by
    rw [arcsAt,hcj.2]
    exact List.mem_map.2 ⟨a,ha,rfl⟩)
   rw [Int.add_comm]
   exact this
end
theorem comp_hom {h:HierD} {N:List GNode} {P:List (Int×Int)} {U:List GNode} {v:Int→Int} (hx:XOk h N P U v) {k:Nat} {g:List GNode} (hc:Comp N k g) (hz:v (k:Int)=0):Hom h g U fun i=>v ((k:Int) + i):=by
 refine ⟨by show v ((k:Int) + 0)=0;rw [Int.add_zero];exact hz,fun i i0 i1=>?_,fun i i0 i1=>?_,fun i i0 i1 a ha=>?_⟩
 ·exact hx.rng _ (by omega) (hc i i0 i1).1
 ·have:=hx.ty _ (by omega) (hc i i0 i1).1
  rw [(hc i i0 i1).2] at this
  exact this
 ·have:=hx.arc _ (by omega) (hc i i0 i1).1 (a.1,a.2 + (k:Int)) (by
   rw [arcsAt,(hc i i0 i1).2]
   exact List.mem_map.2 ⟨a,ha,rfl⟩)
  rw [Int.add_comm (k:Int) a.2]
  exact this
theorem hom_xok {h:HierD} {g X:List GNode} {m:Int→Int} (hm:Hom h g X m):XOk h g [] X m:=⟨hm.rng,hm.ty,hm.arc,fun q hq=>by cases hq⟩
theorem xok_join {h:HierD} {f g X:List GNode} (hf:GoodF f) (hg:GoodF g) {v w:Int→Int} (h1:XOk h f [] X v) (h2:XOk h g [] X w):XOk h (joinN f g) [] X (fun x=>if x < (f.length:Int) then v x else w (x - (f.length:Int))):=by
 have hl:=joinN_len f g
 refine ⟨fun x x0 x1=>?_,fun x x0 x1=>?_,fun x x0 x1 a ha=>?_,fun q hq=>by cases hq⟩
 ·rw [hl] at x1
  show _∧_
  try simp only
  split
  ·exact h1.rng x x0 (by assumption)
  ·exact h2.rng _ (by omega) (by omega)
 ·rw [hl] at x1
  try simp only
  by_cases hx:x < (f.length:Int)
  ·rw [if_pos hx,joinN_left x0 hx]
   exact h1.ty x x0 hx
  ·rw [if_neg hx]
   have:=joinN_right (f:=f) (g:=g) (y:=x - (f.length:Int)) (by omega) (by omega)
   rw [show (f.length:Int) + (x - (f.length:Int))=x by omega] at this
   rw [this]
   exact h2.ty _ (by omega) (by omega)
 ·rw [hl] at x1
  try simp only
  by_cases hx:x < (f.length:Int)
  ·rw [if_pos hx]
   rw [arcsAt,joinN_left x0 hx] at ha
   have hr:=arcs_in' hf ha
   rw [if_pos hr.2]
   exact h1.arc x x0 hx a ha
  ·rw [if_neg hx]
   have:=joinN_right (f:=f) (g:=g) (y:=x - (f.length:Int)) (by omega) (by omega)
   rw [show (f.length:Int) + (x - (f.length:Int))=x by omega] at this
   rw [arcsAt,this] at ha
   obtain ⟨b,hb,rfl⟩:=List.mem_map.1 ha
   have hr:=arcs_in' hg hb
   rw [if_neg (by simp only;omega)]
   try simp only
   rw [show b.2 + (f.length:Int) - (f.length:Int)=b.2 by omega]
   exact h2.arc _ (by omega) (by omega) b hb
theorem xok_eq {h:HierD} {N X:List GNode} {P:List (Int×Int)} {v:Int→Int} (h1:XOk h N [] X v) (he:∀ q∈P,v q.1=v q.2):XOk h N P X v:=⟨h1.rng,h1.ty,h1.arc,he⟩
theorem comp_left {N f g:List GNode} {k:Nat} (h:Comp f k N):Comp (joinN f g) k N:=by
 intro i i0 i1
 have:=h i i0 i1
 rw [joinN_len,joinN_left (by omega) this.1]
 exact ⟨by omega,this.2⟩
theorem comp_self {f:List GNode}:Comp f 0 f:=by
 intro i i0 i1
 rw [show ((0:Nat):Int) + i=i by omega]
 refine ⟨i1,?_⟩
 have:shiftA 0 (f.getD i.toNat (0,[])).2=(f.getD i.toNat (0,[])).2:=by
  unfold shiftA
  rw [List.map_congr_left (g:=id) (fun a _=>by show (a.1,a.2 + ((0:Nat):Int))=a;rw [Int.natCast_zero,Int.add_zero]),List.map_id]
 rw [this]
theorem comp_right {f g:List GNode}:Comp (joinN f g) f.length g:=by
 intro i i0 i1
 rw [joinN_len,joinN_right i0 i1]
 exact ⟨by omega,rfl⟩
set_option maxHeartbeats 1000000 in
theorem gen_ok {h:HierD} {N:List GNode} {P:List (Int×Int)} {p ty:List Int} {ar:List (List (Int×Int))} (hj:JI h N P p ty ar []) (hQ:GoodF (quo p ty ar)) (hN:0 < N.length) (hall:∀ x,0≤x→x < (N.length:Int)→rtF p x∈ordQ p ty ar) :
  GenOk h N P (canonicalF (quo p ty ar) (rtF p 0)) (fun x=>idxZ (ordQ p ty ar) (rtF p x)):=by
 have ho:=reach_ord hj hQ hN
 have hin0:=reach_zero hj hQ hN
 obtain ⟨nty,⟨rk,fo⟩,lp,lt,la,wr,tyr,arr,srt,sp,st,sa,co⟩:=hj
 have hql:=quo_len p ty ar
 have hrt:=fun {x:Int} (x0:0≤x) (x1:x < (N.length:Int))=>rtF_rt fo x0 (by rw [lp];exact x1)
 have hrr:=fun {x:Int} (x0:0≤x) (x1:x < (N.length:Int))=>rt_rng fo x0 (by rw [lp];exact x1) (hrt x0 x1)
 have hUl:=canR_len (quo p ty ar) (rtF p 0)
 have hUg:=fun i=>canR_get (f:=quo p ty ar) (r:=rtF p 0) (i:=i)
 have hqa:∀ x:Int,0≤x→x < (N.length:Int)→arcsAt (quo p ty ar) x=(ar.getD x.toNat []).map fun a=>(a.1,rtF p a.2):=fun x x0 x1=>by
  rw [arcsAt,quo_get x0 (by rw [lp];exact x1)]
 have hroots:∀ x∈ordQ p ty ar,(0≤x∧x < (N.length:Int))∧par p x=x:=by
  have hiso:Iso (quo p ty ar) (quo p ty ar) id (fun x=>(0≤x∧x < (N.length:Int))∧par p x=x):=by
   refine ⟨fun i _=>by simp,fun i hi a ha=>?_,fun i j _ _ e=>e⟩
   rw [hqa i hi.1.1 hi.1.2] at ha
   obtain ⟨b,hb,rfl⟩:=List.mem_map.1 ha
   have hr:=(arr _ b hb).1
   have:=hrr hr.1 hr.2
   rw [lp] at this
   exact ⟨this,(hrt hr.1 hr.2).root⟩
  have hr0:=hrr (x:=0) (by omega) (by omega)
  rw [lp] at hr0
  exact (dfs_iso hiso _ [] _ (fun x hx=>by cases hx) ⟨hr0,(hrt (x:=0) (by omega) (by omega)).root⟩).2
 have hlead:=fun (q:Nat)=>dfs_lead hQ (quo p ty ar).length [] (rtF p 0) (dOk_nil _) (hrr (x:=0) (by omega) (by omega)).1 (by rw [hql];exact (hrr (x:=0) (by omega) (by omega)).2) (by simp) q
 unfold ordQ at ho hin0 hall hroots ⊢
 generalize hU:canonicalF (quo p ty ar) (rtF p 0)=U at *
 generalize hod:dfs (quo p ty ar) (quo p ty ar).length [] (rtF p 0)=o at *
 have hmem:∀ i:Int,0≤i→i < (o.length:Int)→o.getD i.toNat 0∈o∧idxZ o (o.getD i.toNat 0)=i:=fun i i0 i1=>by
  refine ⟨mem_of_take_succ o 0 (by omega),?_⟩
  rw [idxZ_get ho.ok.nd (by omega)]
  omega
 have hnode:∀ x∈o,U.getD (idxZ o x).toNat (0,[])=(ty.getD x.toNat 0,(ar.getD x.toNat []).map fun a=>(a.1,idxZ o (rtF p a.2))):=fun x hx=>by
  have hz:=get_idxZ hx
  have hr:=(hroots x hx).1
  rw [hUg _ (by omega),hz.2.2]
  unfold nodeD
  rw [quo_get hr.1 (by rw [lp];exact hr.2),List.map_map]
  rfl
 have hcl:∀ x∈o,∀ a∈ar.getD x.toNat [],rtF p a.2∈o:=fun x hx a ha=>by
  have hr:=(hroots x hx).1
  exact ho.cl x hx (a.1,rtF p a.2) (by rw [hqa x hr.1 hr.2];exact List.mem_map.2 ⟨a,ha,rfl⟩)
 have hstr:∀ k,Str ((ar.getD k []).map fun a=>(a.1,idxZ o (rtF p a.2))):=fun k=>by
  unfold Str
  rw [List.pairwise_map]
  exact srt k
 have hUm:∀ x∈U,∃ y∈o,x=(ty.getD y.toNat 0,(ar.getD y.toNat []).map fun a=>(a.1,idxZ o (rtF p a.2))):=fun x hx=>by
  obtain ⟨i,hi,rfl⟩:=mem_getD (0,[]) hx
  have h1:=hmem (i:Int) (by omega) (by omega)
  refine ⟨_,h1.1,?_⟩
  rw [← hnode _ h1.1,h1.2]
  rw [Int.toNat_natCast]
 have hi0:idxZ o (rtF p 0)=0:=by
  have:=idxZ_get ho.ok.nd ho.zero.2
  rw [ho.zero.1] at this
  exact this
 have hlen:=ho.ok.len
 have hQ1:=hQ.1
 refine ⟨⟨by omega,fun x hx=>?_⟩,by rw [hUl];exact ho.zero.2,fun x hx=>?_,fun x hx a ha=>?_,fun x hx=>?_,fun i i0 i1=>?_,hi0,⟨fun i i0 i1=>?_,fun i i0 i1=>?_,fun i i0 i1 a ha=>?_,fun q hq=>?_⟩,fun X v hX hv hv0=>?_,by omega⟩
 ·obtain ⟨y,hy,rfl⟩:=hUm x hx
  have hr:=(hroots y hy).1
  refine ⟨?_,fun a ha=>?_⟩
  ·have:=(hQ.2 _ (mem_of_take_succ (quo p ty ar) (0,[]) (k:=y.toNat) (by omega))).1
   rw [quo_get hr.1 (by rw [lp];exact hr.2),List.length_map] at this
   simp only [List.length_map]
   exact this
  ·obtain ⟨b,hb,rfl⟩:=List.mem_map.1 ha
   have:=get_idxZ (hcl y hy b hb)
   rw [hUl]
   exact ⟨this.1,this.2.1⟩
 ·obtain ⟨y,hy,rfl⟩:=hUm x hx
  exact hstr _
 ·obtain ⟨y,hy,rfl⟩:=hUm x hx
  obtain ⟨b,hb,rfl⟩:=List.mem_map.1 ha
  exact (arr _ b hb).2
 ·obtain ⟨y,hy,rfl⟩:=hUm x hx
  have hr:=(hroots y hy).1
  exact tyr y hr.1 hr.2
 · -- in order
  obtain ⟨j,j1,a,ha,e⟩:=hlead i.toNat (by simp only [List.length_nil];omega) (by omega)
  have h1:=hmem (j:Int) (by omega) (by omega)
  have h2:=hmem i (by omega) (by omega)
  rw [Int.toNat_natCast] at h1
  have hr:=(hroots _ h1.1).1
  rw [hqa _ hr.1 hr.2] at ha
  obtain ⟨b,hb,rfl⟩:=List.mem_map.1 ha
  refine ⟨(j:Int),by omega,by omega,(b.1,idxZ o (rtF p b.2)),?_,?_⟩
  ·have:=hnode _ h1.1
   rw [h1.2] at this
   rw [arcsAt,this]
   exact List.mem_map.2 ⟨b,hb,rfl⟩
  ·show idxZ o (rtF p b.2)=i
   simp only at e
   rw [e,h2.2]
 ·have:=get_idxZ (hall i i0 i1)
  rw [hUl]
  exact ⟨this.1,this.2.1⟩
 ·show hsubF h _ (U.getD (idxZ o (rtF p i)).toNat (0,[])).1=true
  rw [hnode _ (hall i i0 i1)]
  exact st i _ i0 i1 (hrt i0 i1)
 ·obtain ⟨t,ht,he⟩:=sa i _ i0 i1 (hrt i0 i1) a ha
  have e:=eg_rt he
  show tgtF (arcsAt U (idxZ o (rtF p i))) a.1=idxZ o (rtF p a.2)
  rw [e,arcsAt,hnode _ (hall i i0 i1)]
  exact tgtF_arc (hstr _) (a:=(a.1,idxZ o (rtF p t))) (List.mem_map.2 ⟨(a.1,t),ht,rfl⟩)
 ·show idxZ o (rtF p q.1)=idxZ o (rtF p q.2)
  rw [eg_rt (sp q hq)]
 ·obtain ⟨c1,c2,c3,c4⟩:=co X v hX hv
  refine ⟨fun i=>v (o.getD i.toNat 0),?_,fun i i0 i1=>?_,fun i i0 i1=>?_,fun i i0 i1 a ha=>?_⟩
  ·show v (o.getD 0 0)=0
   rw [ho.zero.1,← c1 0 _ (by omega) (by omega) (hrt (by omega) (by omega))]
   exact hv0
  ·have h3:=hmem i i0 (by omega)
   have hr:=(hroots _ h3.1).1
   exact hv.rng _ hr.1 hr.2
  ·have h3:=hmem i i0 (by omega)
   have hr:=hroots _ h3.1
   have hn:=hnode _ h3.1
   rw [h3.2] at hn
   rw [hn]
   exact c3 _ hr.1.1 hr.1.2 hr.2
  ·have h3:=hmem i i0 (by omega)
   have hr:=hroots _ h3.1
   have hn:=hnode _ h3.1
   rw [h3.2] at hn
   rw [arcsAt,hn] at ha
   obtain ⟨b,hb,rfl⟩:=List.mem_map.1 ha
   have h4:=c4 _ hr.1.1 hr.1.2 hr.2 b hb
   have hbr:=(arr _ b hb).1
   have h5:=get_idxZ (hcl _ h3.1 b hb)
   simp only
   rw [h5.2.2,← c1 b.2 _ hbr.1 hbr.2 (hrt hbr.1 hbr.2)]
   exact h4
end
/- Plain: types of one set are one. -/
section
def Nrm (c:List Int):Prop:=c.length=0∨c.getD (c.length - 1) 0≠0
theorem normal_nrm (b:List Int):Nrm (normalF b):=by
 unfold Nrm normalF
 have hl:=normN_le b b.length
 rw [List.length_take,Nat.min_eq_left hl]
 rcases norm_last b b.length with h | h
 ·exact .inl h
 ·by_cases h0:normN b b.length=0
  ·exact .inl h0
  ·right
   rw [List.getD_eq_getElem?_getD,List.getElem?_take_of_lt (by omega),← List.getD_eq_getElem?_getD]
   exact h
theorem word_eq {a b:List Int} (ha:Wds a) (hb:Wds b) (h:∀ i,bitN a i=bitN b i) (k:Nat):a.getD k 0=b.getD k 0:=by
 have ua:=getD_U64 ha k
 have ub:=getD_U64 hb k
 have ua1:=ua.1
 have ua2:=ua.2
 have ub1:=ub.1
 have ub2:=ub.2
 have e:(a.getD k 0).toNat=(b.getD k 0).toNat:=by
  refine Nat.eq_of_testBit_eq fun r=>?_
  by_cases hr:r < 64
  ·have:=h (64 * k + r)
   unfold bitN at this
   rw [show (64 * k + r) / 64=k by omega,show (64 * k + r) % 64=r by omega] at this
   exact this
  ·have big:∀ n:Nat,n < 18446744073709551616→n.testBit r=false:=fun n hn=>by
    have e:(18446744073709551616:Nat)=2 ^ 64:=by decide
    rw [e] at hn
    exact Nat.testBit_lt_two_pow (Nat.lt_of_lt_of_le hn (Nat.pow_le_pow_right (by decide) (by omega)))
   rw [big _ (by omega),big _ (by omega)]
 omega
theorem nrm_len {a b:List Int} (hw:∀ k,a.getD k 0=b.getD k 0) (hb:Nrm b):b.length≤a.length:=by
 rcases hb with h | h
 ·omega
 ·refine Classical.byContradiction fun hc=>h ?_
  rw [← hw]
  exact getD_out (by omega)
theorem nrm_eq {a b:List Int} (ha:Wds a) (hb:Wds b) (na:Nrm a) (nb:Nrm b) (h:∀ i,bitN a i=bitN b i):a=b:=by
 have hw:=word_eq ha hb h
 have hl:a.length=b.length:=Nat.le_antisymm (nrm_len (fun k=>(hw k).symm) na) (nrm_len hw nb)
 refine List.ext_getElem hl fun i h1 h2=>?_
 have:=hw i
 simpa [List.getD_eq_getElem?_getD,h1,h2] using this
theorem ins_perm {α:Type} (l:List α) (x:α) (n:Nat):List.Perm (l.take n++[x]++l.drop n) (x :: l):=by
 have h:l.take n++[x]++l.drop n=l.take n++x :: l.drop n:=by simp
 rw [h]
 refine List.perm_middle.trans ?_
 rw [List.take_append_drop]
def Apt (l:List ByteArray):Prop:=l.Pairwise fun a b=>strEq a b=false
theorem strEq_symm' {a b:ByteArray} (h:strEq a b=false):strEq b a=false:=by
 cases hh:strEq b a with
 | false=>rfl
 | true=>rw [strEq_symm hh] at h;cases h
theorem putF_apt {l:List ByteArray} {s:ByteArray} (h:Apt l) (hs:∀ x∈l,strEq x s=false):Apt (putF l s):=by
 unfold putF
 split
 ·exact h
 ·refine (List.Perm.pairwise_iff (fun hxy=>strEq_symm' hxy) (ins_perm l s _)).2 ?_
  exact List.pairwise_cons.2 ⟨fun x hx=>strEq_symm' (hs x hx),h⟩
theorem namesL_apt {d:List DeclD} (hn:namesF d=0):Apt (namesL d):=by
 have key:∀ k,k≤d.length→Apt (namesL (d.take k))∧∀ s∈namesL (d.take k),∃ i,i < k∧(d.getD i d0).1=s:=by
  intro k
  induction k with
  | zero =>
   intro _
   exact ⟨.nil,fun s hs=>by cases hs⟩
  | succ k ih =>
   intro hk
   obtain ⟨h1,h2⟩:=ih (by omega)
   have e:namesL (d.take (k + 1))=putF (namesL (d.take k)) (d.getD k d0).1:=by
    have:d.take (k + 1)=d.take k++[d.getD k d0]:=take_snoc d d0 (by omega)
    rw [this]
    unfold namesL
    rw [List.foldl_append]
    rfl
   rw [e]
   refine ⟨putF_apt h1 fun x hx=>?_,fun s hs=>?_⟩
   ·obtain ⟨i,hi,rfl⟩:=h2 x hx
    cases hh:strEq (d.getD i d0).1 (d.getD k d0).1 with
    | false=>rfl
    | true =>
     have g:=dfind_congr d hh
     rw [dfind_at hn (j:=i) (by omega),dfind_at hn (j:=k) (by omega)] at g
     omega
   ·rcases putF_mem hs with hs | hs
    ·obtain ⟨i,hi,e⟩:=h2 s hs
     exact ⟨i,by omega,e⟩
    ·exact ⟨k,by omega,hs.symm⟩
 have:=(key d.length (Nat.le_refl _)).1
 rwa [List.take_length] at this
structure Nd (l:List (List Int)):Prop where
 nd:l.Nodup
 nrm:∀ c∈l,Nrm c
theorem nd_snoc {l:List (List Int)} {c:List Int} (h:Nd l) (hc:c ∉ l) (hn:Nrm c):Nd (l++[c]):=by
 refine ⟨?_,fun x hx=>?_⟩
 ·rw [List.nodup_append]
  refine ⟨h.nd,by simp,fun x hx y hy e=>hc ?_⟩
  have:y=c:=by simpa using hy
  rw [← this,← e]
  exact hx
 ·rcases List.mem_append.1 hx with hx | hx
  ·exact h.nrm x hx
  ·have:x=c:=by simpa using hx
   rw [this]
   exact hn
theorem famK_nd {l:List (List Int)} (h:Nd l) (i k:Nat):Nd (famK l i k):=by
 unfold famK
 split
 ·rename_i hc
  rw [Bool.and_eq_true,Bool.not_eq_true'] at hc
  refine nd_snoc h (fun hm=>?_) (normal_nrm _)
  have:inBF l (andF (l.getD i []) (l.getD k []))=true:=List.any_eq_true.2 ⟨_,hm,by unfold sameF;exact decide_eq_true rfl⟩
  rw [this] at hc
  cases hc.2
 ·exact h
theorem famI_nd {i:Nat}:∀ {n k:Nat} {l:List (List Int)},Nd l→Nd (famI i n k l)
 | 0,_,_,h=>h
 | n + 1,k,l,h=>by
  unfold famI
  split
  ·exact famI_nd (famK_nd h i k)
  ·exact h
theorem famG_nd:∀ {n i:Nat} {l:List (List Int)},Nd l→Nd (famG n i l)
 | 0,_,_,h=>h
 | n + 1,i,l,h=>by
  unfold famG
  split
  ·exact famG_nd (famI_nd h)
  ·exact h
theorem codesL_nd {d:List DeclD} (h3:check3F d=0):Nd (codesL d):=by
 obtain ⟨-,h2,-,hn,hl⟩:=check3_zero h3
 have hnl:=namesL_len d d.length
 rw [List.take_length] at hnl
 have hap:=namesL_apt hn
 refine ⟨?_,fun c hc=>?_⟩
 ·unfold codesL List.Nodup
  rw [List.pairwise_map,List.pairwise_iff_getElem]
  intro i j hi hj hij e
  have h1:=(List.pairwise_iff_getElem.1 hap) i j hi hj hij
  have g:∀ k,(hk:k < (namesL d).length)→(namesL d).getD k ByteArray.empty=(namesL d)[k]:=fun k hk=>by simp [List.getD_eq_getElem?_getD,hk]
  have hw:=(code_bit (d:=d) (all:=namesL d) (by omega) (namesL d)[j] 0).2.1
  have h5:=code_inj hn hl h2 hi hj (by
   rw [g i hi,g j hj,e]
   unfold equalBF
   have:=(subset_iff hw hw).2 fun _ h=>h
   rw [this]
   rfl)
  rw [g i hi,g j hj,h1] at h5
  cases h5
 ·obtain ⟨s,hs,rfl⟩:=List.mem_map.1 hc
  unfold codeF ofF
  split
  ·exact normal_nrm _
  ·exact .inl rfl
theorem coded_nodup {d:List DeclD}:∀ {l:List (List Int)} {o:List CodedD},(o.map (·.2)++l).Nodup→((l.foldl (codedA d) o).map (·.2)).Nodup
 | [],o,h=>by simpa using h
 | b :: l,o,h=>by
  rw [List.foldl_cons]
  refine coded_nodup ?_
  unfold codedA codedB insC
  have hp:=(ins_perm o (nameF d (namesL d) (codesL d) b,b) (insAt (nameF d (namesL d) (codesL d) b,b) o o.length)).map (fun x:CodedD=>x.2)
  have hp2:List.Perm ((o.take (insAt (nameF d (namesL d) (codesL d) b,b) o o.length)++[(nameF d (namesL d) (codesL d) b,b)]++o.drop (insAt (nameF d (namesL d) (codesL d) b,b) o o.length)).map (fun x:CodedD=>x.2)++l) (o.map (·.2)++b :: l) :=
   (hp.append_right l).trans (List.perm_middle (a:=b)).symm
  exact hp2.nodup_iff.2 h
def HInj (h:HierD):Prop:=∀ a b,0≤a→a < (h.1.length:Int)→0≤b→b < (h.1.length:Int)→hsubF h a b=true→hsubF h b a=true→a=b
theorem inj_of {h:HierD} (hk:HOk h) (hn:Nd (h.1.map fun t=>t.2.1)):HInj h:=by
 intro a b a0 a1 b0 b1 h1 h2
 have wa:=hk.1.wds _ (code_mem a0 a1)
 have wb:=hk.1.wds _ (code_mem b0 b1)
 have e:codeT h a=codeT h b:=nrm_eq wa wb (hn.nrm _ (code_mem a0 a1)) (hn.nrm _ (code_mem b0 b1)) fun i=>by
  rw [Bool.eq_iff_iff]
  exact ⟨(hsub_iff hk b0 b1 a0 a1).1 h2 i,(hsub_iff hk a0 a1 b0 b1).1 h1 i⟩
 have hp:=List.pairwise_iff_getElem.1 hn.nd
 have g:∀ k:Int,0≤k→(hk:k < (h.1.length:Int))→codeT h k=(h.1.map fun t=>t.2.1)[k.toNat]'(by rw [List.length_map];omega):=fun k k0 k1=>by
  unfold codeT
  simp [List.getD_eq_getElem?_getD,show k.toNat < h.1.length by omega]
 rw [g a a0 a1,g b b0 b1] at e
 rcases Int.lt_trichotomy a b with hlt | heq | hlt
 ·exact absurd e (hp a.toNat b.toNat (by rw [List.length_map];omega) (by rw [List.length_map];omega) (by omega))
 ·exact heq
 ·exact absurd e.symm (hp b.toNat a.toNat (by rw [List.length_map];omega) (by rw [List.length_map];omega) (by omega))
theorem compile_inj (d:List DeclD):HInj (compileF d).1:=by
 refine inj_of (compile_hok d) ?_
 unfold compileF
 split
 ·exact ⟨.nil,fun c h=>(by cases h)⟩
 ·rename_i hv
  have hv:(valuesF d).2=0:=Classical.byContradiction hv
  have h5:check5F d=0:=by
   unfold valuesF at hv
   split at hv
   ·rename_i h;exact absurd hv h
   ·rename_i h;exact Classical.byContradiction h
  obtain ⟨hz,-,-⟩:=check5_zero h5
  obtain ⟨h3,hlen,-⟩:=codesF_zero hz
  have hf:Nd (familyF (codesL d)):=famG_nd (codesL_nd h3)
  have e:((hierV d).1.map fun t=>t.2.1)=(codesR d).map fun x=>x.2:=by
   show ((typeG _ _ _).map fun t=>t.2.1)=_
   unfold typeG
   rw [List.map_map]
   apply List.ext_getElem
   ·simp
   ·intro i h1 h2
    simp [List.getD_eq_getElem?_getD,show i < (codesR d).length by simpa using h1]
  show Nd ((hierV d).1.map fun t=>t.2.1)
  rw [e]
  refine ⟨coded_nodup (by simpa using hf.nd),fun c hc=>?_⟩
  obtain ⟨x,hx,rfl⟩:=List.mem_map.1 hc
  obtain ⟨b,hb,rfl⟩:=codesR_mem.1 hx
  exact hf.nrm b hb
end
/- Plain: maps of structures in order are one; the most general structure of two is one. -/
section
structure VF (h:HierD) (f:List GNode):Prop where
 good:GoodF f
 pos:0 < f.length
 ty:TyOk h f
 str:∀ x∈f,Str x.2
 ft:∀ x∈f,∀ a∈x.2,0≤a.1∧a.1 < (h.2.length:Int)
 can:canonicalF f 0=f
 ro:RO f
structure HU (h:HierD):Prop where
 ok:HOk h
 inj:HInj h
 ft:h.2.length≤64
theorem can_idem {Q:List GNode} (hQ:GoodF Q) {r:Int} (r0:0≤r) (r1:r < (Q.length:Int)):canonicalF (canonicalF Q r) 0=canonicalF Q r:=by
 have ho:=ordR_of hQ r0 r1
 have hUl:=canR_len Q r
 have hUg:=fun i=>canR_get (f:=Q) (r:=r) (i:=i)
 generalize hU:canonicalF Q r=U at *
 generalize hod:dfs Q Q.length [] r=o at *
 have hol:=ho.ok.len
 have hQ1:=hQ.1
 have hmem:∀ i:Int,0≤i→i < (o.length:Int)→o.getD i.toNat 0∈o∧idxZ o (o.getD i.toNat 0)=i:=fun i i0 i1=>by
  refine ⟨mem_of_take_succ o 0 (by omega),?_⟩
  rw [idxZ_get ho.ok.nd (by omega)]
  omega
 have harc:∀ i:Int,0≤i→i < (o.length:Int)→arcsAt U i=(arcsAt Q (o.getD i.toNat 0)).map (renD o):=fun i i0 i1=>by
  rw [arcsAt,hUg i.toNat (by omega)]
  rfl
 have hiso:Iso U Q (fun i=>o.getD i.toNat 0) (fun i=>0≤i∧i < (o.length:Int)):=by
  refine ⟨fun i hi=>?_,fun i hi a ha=>?_,fun i j hi hj e=>?_⟩
  ·rw [harc i hi.1 hi.2,List.map_map]
   have:∀ a∈arcsAt Q (o.getD i.toNat 0),((fun a:Int×Int=>(a.1,o.getD a.2.toNat 0)) ∘ renD o) a=a:=fun a ha=>by
    show (a.1,o.getD (idxZ o a.2).toNat 0)=a
    rw [(get_idxZ (ho.cl _ (hmem i hi.1 hi.2).1 a ha)).2.2]
   rw [List.map_congr_left this,List.map_id']
  ·rw [harc i hi.1 hi.2] at ha
   obtain ⟨b,hb,rfl⟩:=List.mem_map.1 ha
   have:=get_idxZ (ho.cl _ (hmem i hi.1 hi.2).1 b hb)
   exact ⟨this.1,this.2.1⟩
  ·have h1:=(hmem i hi.1 hi.2).2
   have h2:=(hmem j hj.1 hj.2).2
   have e:o.getD i.toNat 0=o.getD j.toNat 0:=e
   rw [← h1,← h2,e]
 have h0:(0:Int) < (o.length:Int):=by have:=ho.zero.2;omega
 have hUgood:GoodF U:=by
  refine ⟨by omega,fun x hx=>?_⟩
  obtain ⟨i,hi,rfl⟩:=mem_getD (0,[]) hx
  have h1:=harc (i:Int) (by omega) (by omega)
  rw [arcsAt,Int.toNat_natCast] at h1
  rw [h1]
  have hm:=hmem (i:Int) (by omega) (by omega)
  rw [Int.toNat_natCast] at hm
  have hr:=ho.ok.rng _ hm.1
  refine ⟨?_,fun a ha=>?_⟩
  ·rw [List.length_map]
   exact (hQ.2 _ (mem_of_take_succ Q (0,[]) (k:=(o.getD i 0).toNat) (by omega))).1
  ·obtain ⟨b,hb,rfl⟩:=List.mem_map.1 ha
   have:=get_idxZ (ho.cl _ hm.1 b hb)
   rw [hUl]
   exact ⟨this.1,this.2.1⟩
 have hd:=dfs_iso hiso Q.length [] 0 (fun x hx=>by cases hx) ⟨by omega,h0⟩
 have hz:o.getD (0:Int).toNat 0=r:=ho.zero.1
 rw [List.map_nil,hz,hod] at hd
 have hfu:=dfs_fuel hUgood (n:=0) (by omega) (by omega) (Q.length - U.length)
 rw [show U.length + (Q.length - U.length)=Q.length by omega] at hfu
 rw [hfu] at hd
 unfold canonicalF
 generalize dfs U U.length [] 0=l at *
 obtain ⟨hd1,hd2⟩:=hd
 have hll:l.length=o.length:=by
  have:=congrArg List.length hd1
  rw [List.length_map] at this
  exact this.symm
 have hlk:∀ k,(hk:k < l.length)→l[k]=(k:Int):=fun k hk=>by
  have hc:=hd2 l[k] (List.getElem_mem hk)
  have h1:=(hmem l[k] hc.1 hc.2).2
  have h2:=(hmem (k:Int) (by omega) (by omega)).2
  have e:o.getD k 0=o.getD (l[k]).toNat 0:=by
   exact (congrArg (fun z:List Int=>z.getD k 0) hd1).trans (by simp [List.getD_eq_getElem?_getD,hk])
  rw [Int.toNat_natCast,e] at h2
  rw [← h1,h2]
 have hnd:l.Nodup:=by
  unfold List.Nodup
  rw [List.pairwise_iff_getElem]
  intro i j hi hj hij e
  rw [hlk i hi,hlk j hj] at e
  omega
 have hidx:∀ x,0≤x→x < (l.length:Int)→idxZ l x=x:=fun x x0 x1=>by
  have:=idxZ_get hnd (i:=x.toNat) (by omega)
  have e:l.getD x.toNat 0=x:=by
   rw [List.getD_eq_getElem?_getD,List.getElem?_eq_getElem (by omega)]
   show l[x.toNat]=x
   rw [hlk _ (by omega)]
   omega
  rw [e] at this
  rw [this]
  omega
 apply List.ext_getElem
 ·rw [List.length_map];omega
 ·intro i h1 h2
  rw [List.getElem_map,hlk i (by simpa using h1)]
  have hU2:U.getD (i:Int).toNat (0,[])=U[i]:=by simp [List.getD_eq_getElem?_getD,h2]
  unfold nodeD
  rw [hU2]
  have:∀ a∈U[i].2,renD l a=a:=fun a ha=>by
   have hg:=(hUgood.2 _ (List.getElem_mem h2)).2 a ha
   unfold renD
   rw [hidx a.2 hg.1 (by omega)]
  rw [List.map_congr_left this,List.map_id']
theorem hom_uniq {h:HierD} {a X:List GNode} (hro:RO a) {m m':Int→Int} (h1:Hom h a X m) (h2:Hom h a X m'):∀ (k:Nat) (i:Int),i.toNat≤k→0≤i→i < (a.length:Int)→m i=m' i:=by
 intro k
 induction k with
 | zero =>
  intro i hk i0 i1
  have:i=0:=by omega
  subst this
  rw [h1.zero,h2.zero]
 | succ k ih =>
  intro i hk i0 i1
  by_cases hi:i=0
  ·subst hi;rw [h1.zero,h2.zero]
  ·obtain ⟨j,j0,j1,x,hx,rfl⟩:=hro i (by omega) i1
   rw [← h1.arc j j0 (by omega) x hx,← h2.arc j j0 (by omega) x hx,ih j (by omega) j0 (by omega)]
theorem hom_comp {h:HierD} (hk:HOk h) {a b c:List GNode} (ga:GoodF a) (ta:TyOk h a) (tb:TyOk h b) (tc:TyOk h c) {m m':Int→Int} (h1:Hom h a b m) (h2:Hom h b c m'):Hom h a c fun i=>m' (m i):=by
 refine ⟨by show m' (m 0)=0;rw [h1.zero,h2.zero],fun i i0 i1=>?_,fun i i0 i1=>?_,fun i i0 i1 x hx=>?_⟩
 ·have:=h1.rng i i0 i1
  exact h2.rng _ this.1 this.2
 ·have hr:=h1.rng i i0 i1
  have hr2:=h2.rng _ hr.1 hr.2
  have xa:=ta _ (mem_of_take_succ a (0,[]) (k:=i.toNat) (by omega))
  have xb:=tb _ (mem_of_take_succ b (0,[]) (k:=(m i).toNat) (by omega))
  have xc:=tc _ (mem_of_take_succ c (0,[]) (k:=(m' (m i)).toNat) (by omega))
  exact hsub_trans hk xa.1 xa.2 xb.1 xb.2 xc.1 xc.2 (h1.ty i i0 i1) (h2.ty _ hr.1 hr.2)
 ·have hr:=h1.rng i i0 i1
  have hxr:=arcs_in' ga hx
  have hm:=h1.arc i i0 i1 x hx
  obtain ⟨y,hy,e1,e2⟩:=tgtF_mem (l:=arcsAt b (m i)) (e:=x.1) (by rw [hm];exact (h1.rng _ hxr.1 hxr.2).1)
  have:=h2.arc (m i) hr.1 hr.2 y hy
  rw [e1,e2,hm] at this
  exact this
theorem str_at {a:List GNode} (hs:∀ x∈a,Str x.2) (n:Int):Str (arcsAt a n):=by
 unfold arcsAt
 by_cases h:n.toNat < a.length
 ·exact hs _ (mem_of_take_succ a (0,[]) h)
 ·rw [List.getD_eq_getElem?_getD,List.getElem?_eq_none (by omega)]
  exact .nil
theorem hom_id {h:HierD} {a:List GNode} (hs:∀ x∈a,Str x.2):Hom h a a id :=
 ⟨rfl,fun i i0 i1=>⟨i0,i1⟩,fun i _ _=>hsub_refl h _,fun i _ _ x hx=>tgtF_arc (str_at hs i) hx⟩
theorem str_ext:∀ {l m:List (Int×Int)},Str l→Str m→(∀ x,x∈l↔x∈m)→l=m
 | [],[],_,_,_=>rfl
 | [],b :: m,_,_,h=>by have:=(h b).2 (by simp);cases this
 | a :: l,[],_,_,h=>by have:=(h a).1 (by simp);cases this
 | a :: l,b :: m,h1,h2,h=>by
  obtain ⟨a1,a2⟩:=List.pairwise_cons.1 h1
  obtain ⟨b1,b2⟩:=List.pairwise_cons.1 h2
  have e:a=b:=by
   rcases List.mem_cons.1 ((h a).1 (by simp)) with e | e
   ·exact e
   ·rcases List.mem_cons.1 ((h b).2 (by simp)) with e2 | e2
    ·exact e2.symm
    ·have:=a1 b e2
     have:=b1 a e
     omega
  subst e
  refine congrArg _ (str_ext a2 b2 fun x=>⟨fun hx=>?_,fun hx=>?_⟩)
  ·rcases List.mem_cons.1 ((h x).1 (by simp [hx])) with e | e
   ·subst e
    have:=a1 x hx
    omega
   ·exact e
  ·rcases List.mem_cons.1 ((h x).2 (by simp [hx])) with e | e
   ·subst e
    have:=b1 x hx
    omega
   ·exact e
theorem vf_eq {h:HierD} (hu:HU h) {U V:List GNode} (hU:VF h U) (hV:VF h V) {m m':Int→Int} (h1:Hom h U V m) (h2:Hom h V U m'):U=V:=by
 have key:∀ {U V:List GNode},VF h U→VF h V→∀ {m m':Int→Int},Hom h U V m→Hom h V U m'→U.length≤V.length→U=V:=by
  clear hU hV h1 h2
  intro U V hU hV m m' h1 h2 hlen
  have c1:=hom_comp hu.ok hU.good hU.ty hV.ty hU.ty h1 h2
  have c2:=hom_comp hu.ok hV.good hV.ty hU.ty hV.ty h2 h1
  have e1:∀ i,0≤i→i < (U.length:Int)→m' (m i)=i:=fun i i0 i1=>hom_uniq hU.ro c1 (hom_id hU.str) i.toNat i (Nat.le_refl _) i0 i1
  have e2:∀ i,0≤i→i < (V.length:Int)→m (m' i)=i:=fun i i0 i1=>hom_uniq hV.ro c2 (hom_id hV.str) i.toNat i (Nat.le_refl _) i0 i1
  have hfw:∀ {A B:List GNode} {f:Int→Int},GoodF A→Hom h A B f→∀ i,0≤i→i < (A.length:Int)→∀ x∈arcsAt A i,(x.1,f x.2)∈arcsAt B (f i):=fun {A B f} gA hf i i0 i1 x hx=>by
   have hxr:=arcs_in' gA hx
   have hm:=hf.arc i i0 i1 x hx
   obtain ⟨y,hy,g1,g2⟩:=tgtF_mem (l:=arcsAt B (f i)) (e:=x.1) (by rw [hm];exact (hf.rng _ hxr.1 hxr.2).1)
   rw [← g1,← hm,← g2]
   exact hy
  have hiso:Iso U V m (fun i=>0≤i∧i < (U.length:Int)):=by
   refine ⟨fun i hi=>?_,fun i hi a ha=>arcs_in' hU.good ha,fun i j hi hj e=>?_⟩
   ·have hr:=h1.rng i hi.1 hi.2
    refine str_ext (str_at hV.str _) ?_ fun x=>⟨fun hx=>?_,fun hx=>?_⟩
    ·unfold Str
     rw [List.pairwise_map]
     exact str_at hU.str i
    ·have g:=hfw hV.good h2 (m i) hr.1 hr.2 x hx
     rw [e1 i hi.1 hi.2] at g
     refine List.mem_map.2 ⟨_,g,?_⟩
     have hxr:=arcs_in' hV.good hx
     show (x.1,m (m' x.2))=x
     rw [e2 x.2 hxr.1 hxr.2]
    ·obtain ⟨y,hy,rfl⟩:=List.mem_map.1 hx
     exact hfw hU.good h1 i hi.1 hi.2 y hy
   ·rw [← e1 i hi.1 hi.2,← e1 j hj.1 hj.2,e]
  have hpos:=hU.pos
  have:=canonical_iso hiso hU.good ⟨by omega,by omega⟩ h1.zero hU.pos hlen fun i hi=>by
   have hr:=h1.rng i hi.1 hi.2
   have g1:=h1.ty i hi.1 hi.2
   have g2:=h2.ty (m i) hr.1 hr.2
   rw [e1 i hi.1 hi.2] at g2
   have xa:=hU.ty _ (mem_of_take_succ U (0,[]) (k:=i.toNat) (by omega))
   have xb:=hV.ty _ (mem_of_take_succ V (0,[]) (k:=(m i).toNat) (by omega))
   exact hu.inj _ _ xb.1 xb.2 xa.1 xa.2 g2 g1
  rw [hV.can,hU.can] at this
  exact this.symm
 rcases Nat.le_total U.length V.length with hl | hl
 ·exact key hU hV h1 h2 hl
 ·exact (key hV hU h2 h1 hl).symm
structure Unif (h:HierD) (a b U:List GNode):Prop where
 vf:VF h U
 left:∃ m,Hom h a U m
 right:∃ m,Hom h b U m
 least:∀ X,TyOk h X→∀ m1,Hom h a X m1→∀ m2,Hom h b X m2→∃ m,Hom h U X m
 len:U.length≤a.length + b.length
theorem unif_eq {h:HierD} (hu:HU h) {a b U V:List GNode} (h1:Unif h a b U) (h2:Unif h a b V):U=V:=by
 obtain ⟨m1,g1⟩:=h2.left
 obtain ⟨m2,g2⟩:=h2.right
 obtain ⟨m3,g3⟩:=h1.left
 obtain ⟨m4,g4⟩:=h1.right
 obtain ⟨m,hm⟩:=h1.least V h2.vf.ty m1 g1 m2 g2
 obtain ⟨m',hm'⟩:=h2.least U h1.vf.ty m3 g3 m4 g4
 exact vf_eq hu h1.vf h2.vf hm hm'
open Classical in
noncomputable def unifyF (h:HierD) (a b:List GNode):List GNode×Bool:=if H:∃ U,Unif h a b U then (H.choose,true) else ([],false)
theorem unifyF_some {h:HierD} (hu:HU h) {a b U:List GNode} (h1:Unif h a b U):unifyF h a b=(U,true):=by
 unfold unifyF
 have H:∃ U,Unif h a b U:=⟨U,h1⟩
 rw [dif_pos H,unif_eq hu H.choose_spec h1]
theorem unifyF_none {h:HierD} {a b:List GNode} (h1:∀ X,TyOk h X→∀ m1,Hom h a X m1→∀ m2,¬ Hom h b X m2):unifyF h a b=([],false):=by
 unfold unifyF
 rw [dif_neg]
 rintro ⟨U,hU⟩
 obtain ⟨m1,g1⟩:=hU.left
 obtain ⟨m2,g2⟩:=hU.right
 exact h1 U hU.vf.ty m1 g1 m2 g2
theorem unifyF_true {h:HierD} {a b:List GNode} (h1:(unifyF h a b).2=true):Unif h a b (unifyF h a b).1:=by
 unfold unifyF at h1 ⊢
 split at h1
 ·rename_i H
  rw [dif_pos H]
  exact H.choose_spec
 ·cases h1
theorem featsN_mem {f:List GNode} {e:Int} (h:e∈featsN f):∃ x∈f,∃ a∈x.2,a.1=e:=by
 unfold featsN at h
 obtain ⟨x,hx,h2⟩:=List.mem_flatMap.1 h
 obtain ⟨a,ha,e⟩:=List.mem_map.1 h2
 exact ⟨x,hx,a,ha,e⟩
theorem gen_vf {h:HierD} {N:List GNode} {P:List (Int×Int)} {p ty:List Int} {ar:List (List (Int×Int))} (hj:JI h N P p ty ar []) (hQ:GoodF (quo p ty ar)) (hN:0 < N.length) (hft:∀ x∈N,∀ a∈x.2,0≤a.1∧a.1 < (h.2.length:Int)) {v:Int→Int} (hU:GenOk h N P (canonicalF (quo p ty ar) (rtF p 0)) v):VF h (canonicalF (quo p ty ar) (rtF p 0)):=by
 have hr:0≤rtF p 0∧rtF p 0 < ((quo p ty ar).length:Int):=by
  obtain ⟨rk,fo⟩:=hj.fo
  have:=hj.lp
  have:=rt_rng fo (x:=0) (by omega) (by omega) (rtF_rt fo (by omega) (by omega))
  rw [quo_len]
  exact this
 refine ⟨hU.good,hU.pos,hU.ty,hU.str,fun x hx a ha=>?_,can_idem hQ hr.1 hr.2,hU.ro⟩
 obtain ⟨y,hy,b,hb,e⟩:=featsN_mem (hU.feat x hx a ha)
 rw [← e]
 exact hft y hy b hb
theorem joinN_ftH {h:HierD} {f g:List GNode} (hf:VF h f) (hg:VF h g):∀ x∈joinN f g,∀ a∈x.2,0≤a.1∧a.1 < (h.2.length:Int):=by
 intro x hx
 unfold joinN at hx
 rcases List.mem_append.1 hx with hx | hx
 ·exact hf.ft x hx
 ·obtain ⟨y,hy,rfl⟩:=List.mem_map.1 hx
  intro a ha
  obtain ⟨b,hb,rfl⟩:=List.mem_map.1 ha
  exact hg.ft y hy b hb
theorem unif_of {h:HierD} {f g:List GNode} (hf:VF h f) (hg:VF h g) {p ty:List Int} {ar:List (List (Int×Int))} (hj:JI h (joinN f g) [(0,(f.length:Int))] p ty ar []) (hQ:GoodF (quo p ty ar)):Unif h f g (canonicalF (quo p ty ar) (rtF p 0)):=by
 have hpf:=hf.pos
 have hl:=joinN_len f g
 have hN:0 < (joinN f g).length:=by omega
 have h0:=reach_zero hj hQ hN
 have hlr:=reach_comp hj hQ hN (comp_left (g:=g) comp_self) hf.ro h0
 have hrr:=reach_comp hj hQ hN (comp_right (f:=f)) hg.ro (reach_eq hj (by simp) h0)
 have hU:=gen_ok hj hQ hN fun x x0 x1=>by
  by_cases hx:x < (f.length:Int)
  ·have:=hlr x.toNat x (Nat.le_refl _) x0 hx
   rwa [show ((0:Nat):Int) + x=x by omega] at this
  ·have:=hrr _ (x - (f.length:Int)) (Nat.le_refl _) (by omega) (by omega)
   rwa [show (f.length:Int) + (x - (f.length:Int))=x by omega] at this
 refine ⟨gen_vf hj hQ hN (joinN_ftH hf hg) hU,⟨_,comp_hom hU.proj (comp_left (g:=g) comp_self) hU.zero⟩,⟨_,comp_hom hU.proj (comp_right (f:=f)) (by rw [← hU.proj.eq (0,(f.length:Int)) (by simp)];exact hU.zero)⟩,fun X hX m1 h1 m2 h2=>?_,by have:=hU.len;omega⟩
 refine hU.least X _ hX (xok_eq (xok_join hf.good hg.good (hom_xok h1) (hom_xok h2)) fun q hq=>?_) ?_
 ·have e:q=(0,(f.length:Int)):=by simpa using hq
  subst e
  try simp only
  rw [if_pos (by omega),if_neg (by omega),Int.sub_self,h1.zero,h2.zero]
 ·show (if (0:Int) < (f.length:Int) then m1 0 else m2 (0 - (f.length:Int)))=0
  rw [if_pos (by omega)]
  exact h1.zero
theorem unif_none {h:HierD} {f g:List GNode} (hf:VF h f) (hg:VF h g) (hno:∀ X v,TyOk h X→¬ XOk h (joinN f g) [(0,(f.length:Int))] X v):unifyF h f g=([],false):=by
 have hpf:=hf.pos
 refine unifyF_none fun X hX m1 h1 m2 h2=>hno X _ hX (xok_eq (xok_join hf.good hg.good (hom_xok h1) (hom_xok h2)) fun q hq=>?_)
 have e:q=(0,(f.length:Int)):=by simpa using hq
 subst e
 try simp only
 rw [if_pos (by omega),if_neg (by omega),Int.sub_self,h1.zero,h2.zero]
end
/- Plain: the classes before they are joined. -/
section
theorem shiftA_zero (l:List (Int×Int)):shiftA 0 l=l:=by
 unfold shiftA
 rw [List.map_congr_left (g:=id) (fun a _=>by show (a.1,a.2 + ((0:Nat):Int))=a;rw [Int.natCast_zero,Int.add_zero]),List.map_id]
theorem numsG_app (a b:Nat):numsG 0 a++numsG a b=numsG 0 (a + b):=by
 unfold numsG
 rw [List.range_add,List.map_append,List.map_map]
 congr 1
 ·refine List.map_congr_left fun i _=>?_
  show ((a + i:Nat):Int)=((0 + (a + i):Nat):Int)
  rw [Nat.zero_add]
theorem numsG_get {n k:Nat} (h:k < n):(numsG 0 n).getD k 0=(k:Int):=by
 unfold numsG
 rw [List.getD_eq_getElem?_getD,List.getElem?_map,List.getElem?_range h]
 show ((0 + k:Nat):Int)=k
 rw [Nat.zero_add]
theorem nums_par {n:Nat} {x:Int} (x0:0≤x) (x1:x < (n:Int)):par (numsG 0 n) x=x:=by
 unfold par
 rw [numsG_get (by omega)]
 omega
def typesN (N:List GNode):List Int:=N.map (·.1)
def arcsN (N:List GNode):List (List (Int×Int)):=N.map (·.2)
theorem typesN_get (N:List GNode) (k:Nat):(typesN N).getD k 0=(N.getD k (0,[])).1:=by
 unfold typesN
 rw [List.getD_eq_getElem?_getD,List.getElem?_map,List.getD_eq_getElem?_getD]
 cases N[k]?<;>rfl
theorem arcsN_get (N:List GNode) (k:Nat):(arcsN N).getD k []=(N.getD k (0,[])).2:=by
 unfold arcsN
 rw [List.getD_eq_getElem?_getD,List.getElem?_map,List.getD_eq_getElem?_getD]
 cases N[k]?<;>rfl
theorem types_join (f g:List GNode):typesG f f.length++typesG g g.length=typesN (joinN f g):=by
 unfold typesG typesN joinN
 rw [List.take_length,List.take_length,List.map_append,List.map_map]
 rfl
theorem arcs_join (f g:List GNode):arcsU 0 f f.length++arcsU f.length g g.length=arcsN (joinN f g):=by
 unfold arcsU arcsN joinN
 rw [List.take_length,List.take_length,List.map_append,List.map_map]
 congr 1
 exact List.map_congr_left fun x _=>shiftA_zero x.2
theorem nums_rt {n:Nat} {x r:Int} (x0:0≤x) (x1:x < (n:Int)) (h:Rt (numsG 0 n) x r):r=x:=h.det (.base (nums_par x0 x1))
theorem ji_init {h:HierD} {N:List GNode} (hg:GoodF N) (ht:TyOk h N) (hs:∀ x∈N,Str x.2):JI h N [] (numsG 0 N.length) (typesN N) (arcsN N) []:=by
 have hl:(numsG 0 N.length).length=N.length:=numsG_len 0 N.length
 refine ⟨ht,⟨fun _=>0,fun n n0 n1=>?_,fun n n0 n1 hn=>?_⟩,hl,by simp [typesN],by simp [arcsN],fun w hw=>(by cases hw),fun x x0 x1=>?_,fun k a ha=>?_,fun k=>?_,fun q hq=>(by cases hq),fun x r x0 x1 hr=>?_,fun x r x0 x1 hr a ha=>?_,fun X v hX hv=>?_⟩
 ·rw [hl] at n1 ⊢
  rw [nums_par n0 n1]
  exact ⟨n0,n1⟩
 ·rw [hl] at n1
  exact absurd (nums_par n0 n1) hn
 ·rw [typesN_get]
  exact ht _ (mem_of_take_succ N (0,[]) (by omega))
 ·rw [arcsN_get] at ha
  refine ⟨node_rng hg k a ha,?_⟩
  by_cases hk:k < N.length
  ·exact List.mem_flatMap.2 ⟨_,mem_of_take_succ N (0,[]) hk,List.mem_map.2 ⟨a,ha,rfl⟩⟩
  ·rw [List.getD_eq_getElem?_getD,List.getElem?_eq_none (by omega)] at ha
   cases ha
 ·rw [arcsN_get]
  have:=str_at hs (k:Int)
  rwa [arcsAt,Int.toNat_natCast] at this
 ·rw [nums_rt x0 x1 hr,typesN_get]
  exact hsub_refl h _
 ·rw [nums_rt x0 x1 hr,arcsN_get]
  have hr2:=arcs_in' hg ha
  exact ⟨a.2,ha,.cls hr2.1 hr2.2 hr2.1 hr2.2 (.base (nums_par hr2.1 hr2.2)) (.base (nums_par hr2.1 hr2.2))⟩
 ·refine ⟨fun x r x0 x1 hr=>by rw [nums_rt x0 x1 hr],fun w hw=>(by cases hw),fun r r0 r1 _=>?_,fun r r0 r1 _ a ha=>?_⟩
  ·rw [typesN_get]
   exact hv.ty r r0 r1
  ·rw [arcsN_get] at ha
   exact hv.arc r r0 r1 a ha
theorem joinN_good {f g:List GNode} (hf:GoodF f) (hg:GoodF g) (hl:f.length + g.length≤100000):GoodF (joinN f g):=by
 have hj:=joinN_len f g
 refine ⟨by omega,fun x hx=>?_⟩
 unfold joinN at hx
 rcases List.mem_append.1 hx with hx | hx
 ·refine ⟨(hf.2 x hx).1,fun a ha=>?_⟩
  have:=(hf.2 x hx).2 a ha
  omega
 ·obtain ⟨y,hy,rfl⟩:=List.mem_map.1 hx
  refine ⟨by simp only [shiftA,List.length_map];exact (hg.2 y hy).1,fun a ha=>?_⟩
  obtain ⟨b,hb,rfl⟩:=List.mem_map.1 ha
  have:=(hg.2 y hy).2 b hb
  simp only
  omega
theorem joinN_str {f g:List GNode} (hf:∀ x∈f,Str x.2) (hg:∀ x∈g,Str x.2):∀ x∈joinN f g,Str x.2:=by
 intro x hx
 unfold joinN at hx
 rcases List.mem_append.1 hx with hx | hx
 ·exact hf x hx
 ·obtain ⟨y,hy,rfl⟩:=List.mem_map.1 hx
  unfold Str shiftA
  rw [List.pairwise_map]
  exact hg y hy
theorem joinN_ty {h:HierD} {f g:List GNode} (hf:TyOk h f) (hg:TyOk h g):TyOk h (joinN f g):=by
 intro x hx
 unfold joinN at hx
 rcases List.mem_append.1 hx with hx | hx
 ·exact hf x hx
 ·obtain ⟨y,hy,rfl⟩:=List.mem_map.1 hx
  exact hg y hy
def Ft64 (N:List GNode):Prop:=∀ x∈N,∀ a∈x.2,0≤a.1∧a.1 < 64
theorem joinN_ft {f g:List GNode} (hf:Ft64 f) (hg:Ft64 g):Ft64 (joinN f g):=by
 intro x hx
 unfold joinN at hx
 rcases List.mem_append.1 hx with hx | hx
 ·exact hf x hx
 ·obtain ⟨y,hy,rfl⟩:=List.mem_map.1 hx
  intro a ha
  obtain ⟨b,hb,rfl⟩:=List.mem_map.1 ha
  exact hg y hy b hb
theorem str_64 {l:List (Int×Int)} (h:Str l) (hf:∀ a∈l,0≤a.1∧a.1 < 64):l.length≤64:=by
 have:=str_len h (S:=(List.range 64).map fun (i:Nat)=>(i:Int)) (fun a ha=>List.mem_map.2 ⟨a.1.toNat,List.mem_range.2 (by have:=hf a ha;omega),by have:=hf a ha;omega⟩)
 rwa [List.length_map,List.length_range] at this
theorem featsN_len {N:List GNode} (h:∀ x∈N,x.2.length≤64):(featsN N).length≤64 * N.length:=by
 induction N with
 | nil=>simp [featsN]
 | cons x N ih =>
  have h1:=h x (by simp)
  have h2:=ih fun y hy=>h y (by simp [hy])
  have e:featsN (x :: N)=x.2.map (·.1)++featsN N:=rfl
  rw [e,List.length_append,List.length_map,List.length_cons]
  omega
theorem featsN_64 {N:List GNode} (h:Ft64 N) {e:Int} (he:e∈featsN N):0≤e∧e < 64:=by
 obtain ⟨x,hx,a,ha,rfl⟩:=featsN_mem he
 exact h x hx a ha
theorem quo_good {h:HierD} {N:List GNode} {P:List (Int×Int)} {p ty:List Int} {ar:List (List (Int×Int))} (hj:JI h N P p ty ar []) (hN:N.length≤100000) (hf:Ft64 N):GoodF (quo p ty ar):=by
 have hl:=quo_len p ty ar
 obtain ⟨rk,fo⟩:=hj.fo
 have lp:=hj.lp
 refine ⟨by omega,fun x hx=>?_⟩
 obtain ⟨i,hi,rfl⟩:=mem_getD (0,[]) hx
 have e:=quo_get (p:=p) (ty:=ty) (ar:=ar) (n:=(i:Int)) (by omega) (by omega)
 rw [Int.toNat_natCast] at e
 rw [e]
 refine ⟨?_,fun a ha=>?_⟩
 ·simp only [List.length_map]
  have:=str_64 (hj.srt i) (fun a ha=>featsN_64 hf (hj.arr i a ha).2)
  omega
 ·obtain ⟨b,hb,rfl⟩:=List.mem_map.1 ha
  have hr:=(hj.arr i b hb).1
  have:=rt_rng fo (x:=b.2) hr.1 (by omega) (rtF_rt fo hr.1 (by omega))
  rw [hl]
  exact this
theorem VF.ft64 {h:HierD} {f:List GNode} (hv:VF h f) (hu:HU h):Ft64 f:=fun x hx a ha=>by
 have h1:=hv.ft x hx a ha
 have h2:=hu.ft
 omega
end
/- Plain: type 0 subsumes each type. -/
section
/-! All declared types are below the root -/
def BelC (d:List DeclD) (o:List ByteArray) (i:Nat):Prop:=∀ j,j < i→∀ x∈d,amongF x.2.1 (o.getD j ByteArray.empty)=true→amongF o x.1=true
theorem addB_has {c:ByteArray} {o:List ByteArray} {x:DeclD} (h:amongF x.2.1 c=true):amongF (addB c o x) x.1=true:=by
 unfold addB
 split
 ·rw [amongF_app,strEq_refl,Bool.or_true]
 ·rename_i hc
  rw [h,Bool.true_and,Bool.not_eq_true'] at hc
  simpa using hc
theorem addBs_has {c:ByteArray} {x:DeclD} (h:amongF x.2.1 c=true):∀ {l:List DeclD} {o:List ByteArray},x∈l→amongF (l.foldl (addB c) o) x.1=true
 | [],_,hx=>by cases hx
 | y :: l,o,hx=>by
  rw [List.foldl_cons]
  rcases List.mem_cons.1 hx with rfl | hx
  ·exact among_sub (fun z hz=>addBs_sub hz) (addB_has h)
  ·exact addBs_has h hx
theorem belowG_C {d:List DeclD}:∀ {n i:Nat} {o:List ByteArray},AOk d o→d.length≤n + i→BelC d o i→i≤o.length→∃ m,BelC d (belowG d n i o) m∧(belowG d n i o).length≤m
 | 0,i,o,ha,hd,hb,hi=>⟨i,hb,by
  have:=ha.len
  show o.length≤i
  omega⟩
 | n + 1,i,o,ha,hd,hb,hi=>by
  unfold belowG
  split
  ·rename_i hlt
   obtain ⟨g1,g2⟩:=addBs_ok (o.getD i ByteArray.empty) (l:=d) (o:=o) (fun _ h=>h) ha
   refine belowG_C g1 (by omega) (fun j hj x hx hs=>?_) (by omega)
   rw [addBs_get _ (by omega)] at hs
   by_cases e:j=i
   ·subst e
    exact addBs_has hs hx
   ·exact among_sub (fun z hz=>addBs_sub hz) (hb j (by omega) x hx hs)
  ·exact ⟨i,hb,by omega⟩
theorem count_one {α:Type} {p:α→Bool}:∀ {l:List α},l.countP p=1→∀ x∈l,p x=true→∀ y∈l,p y=true→x=y
 | [],h,x,hx,_,_,_,_=>by cases hx
 | z :: l,h,x,hx,px,y,hy,py=>by
  rw [List.countP_cons] at h
  by_cases pz:p z=true
  ·rw [if_pos pz] at h
   have h0:l.countP p=0:=by omega
   rw [List.countP_eq_zero] at h0
   have e1:x=z:=by
    rcases List.mem_cons.1 hx with e | hx
    ·exact e
    ·exact absurd px (h0 x hx)
   have e2:y=z:=by
    rcases List.mem_cons.1 hy with e | hy
    ·exact e
    ·exact absurd py (h0 y hy)
   rw [e1,e2]
  ·rw [if_neg pz] at h
   have hx:x∈l:=by
    rcases List.mem_cons.1 hx with e | hx
    ·rw [e] at px;exact absurd px pz
    ·exact hx
   have hy:y∈l:=by
    rcases List.mem_cons.1 hy with e | hy
    ·rw [e] at py;exact absurd py pz
    ·exact hy
   exact count_one (by omega) x hx px y hy py
theorem dfindG_has (s:ByteArray):∀ (l:List DeclD) (k:Nat),0≤dfindG s k l→∃ x∈l,strEq x.1 s=true
 | [],k,h=>by
  simp only [dfindG] at h
  omega
 | y :: l,k,h=>by
  simp only [dfindG] at h
  split at h
  ·rename_i e
   exact ⟨y,by simp,e⟩
  ·obtain ⟨x,hx,e⟩:=dfindG_has s l (k + 1) h
   exact ⟨x,by simp [hx],e⟩
theorem below_root {d:List DeclD} (h3:check3F d=0):∃ r∈d,∀ x∈d,amongF (belowF d r.1) x.1=true:=by
 obtain ⟨hs,h2,h1,hn,hl⟩:=check3_zero h3
 have hpos:0 < d.countP fun x=>x.2.1.length == 0:=by
  have:rootsN d=d.countP fun x=>x.2.1.length == 0:=rfl
  omega
 obtain ⟨r,hr,pr⟩:=List.countP_pos_iff.1 hpos
 refine ⟨r,hr,?_⟩
 have hrd:=dfind_self hr
 have hA:AOk d [r.1]:=⟨fun s hs=>by
  have:s=r.1:=by simpa using hs
  rw [this]
  exact hrd,by simp⟩
 obtain ⟨m,hm1,hm2⟩:=belowG_C (d:=d) (n:=d.length) (i:=0) hA (by omega) (fun j hj=>by omega) (by omega)
 have hsub:r.1∈belowG d d.length 0 [r.1]:=belowG_sub (by simp)
 have hb:belowF d r.1=sortL (belowG d d.length 0 [r.1]):=by unfold belowF;rw [if_neg (by omega)]
 rw [hb]
 generalize belowG d d.length 0 [r.1]=o at *
 have key:∀ (k:Nat) (x:DeclD),x∈d→rankF d x.1≤k→amongF o x.1=true:=by
  intro k
  induction k with
  | zero =>
   intro x hx hk
   by_cases hc:x.2.1.length=0
   ·have e:=count_one h1 x hx (by simpa using hc) r hr pr
    rw [e]
    exact among_mem hsub
   ·obtain ⟨s,hs2⟩:∃ s,s∈x.2.1:=List.exists_mem_of_length_pos (by omega)
    have:=rank_super hn hl hx (among_mem hs2)
    omega
  | succ k ih =>
   intro x hx hk
   by_cases hc:x.2.1.length=0
   ·have e:=count_one h1 x hx (by simpa using hc) r hr pr
    rw [e]
    exact among_mem hsub
   ·obtain ⟨s,hs2⟩:∃ s,s∈x.2.1:=List.exists_mem_of_length_pos (by omega)
    have hrk:=rank_super hn hl hx (among_mem hs2)
    obtain ⟨y,hy,e⟩:=dfindG_has s d 0 (hs x hx s hs2)
    rw [← rank_congr d e] at hrk
    obtain ⟨z,hz,e2⟩:=List.any_eq_true.1 (ih y hy (by omega))
    obtain ⟨j,hj,rfl⟩:=mem_getD ByteArray.empty hz
    refine hm1 j (by omega) x hx ?_
    exact List.any_eq_true.2 ⟨s,hs2,strEq_symm (strEq_trans e2 e)⟩
 intro x hx
 obtain ⟨z,hz,e⟩:=List.any_eq_true.1 (key _ x hx (Nat.le_refl _))
 obtain ⟨w,hw,e2⟩:=List.any_eq_true.1 (puts_new (o:=[]) hz)
 exact List.any_eq_true.2 ⟨w,hw,strEq_trans e2 e⟩
/-! The greatest code comes first -/
abbrev cnt (c:List Int):Nat:=(listF c).length
theorem bitF_bit {w:Int} (hw:U64 w) {r:Nat} (hr:r < 64):bitF w (r:Int)=w.toNat.testBit r:=by
 have h0:=hw.1
 have h1:=hw.2
 have hle:w.toNat / 2 ^ r≤w.toNat:=Nat.div_le_self _ _
 have e:shrV .u64 w (r:Int)=((w.toNat / 2 ^ r:Nat):Int):=by
  unfold shrV
  have hm:min ((r:Int)).toNat IntKind.u64.bits=r:=by
   show min ((r:Int)).toNat 64=r
   omega
  have hp:(0:Int)≤2 ^ r:=Int.le_of_lt (Int.pow_pos (by decide))
  rw [hm,Int.fdiv_eq_ediv_of_nonneg _ hp,Int.natCast_ediv,Int.toNat_of_nonneg h0]
  simp
 unfold bitF
 rw [Nat.testBit_eq_decide_div_mod_eq,e]
 generalize w.toNat / 2 ^ r=z at *
 rw [and_bits ⟨by omega,by omega⟩ ⟨by decide,by decide⟩,Int.toNat_natCast,show (1:Int).toNat=1 from rfl,Nat.and_one_is_mod,Bool.eq_iff_iff,beq_iff_eq,decide_eq_true_eq]
 omega
theorem has_bit {b:List Int} (hw:Wds b) (i:Nat):hasF b (i:Int)=bitN b i:=by
 have e1:Int.tdiv (i:Int) 64=((i / 64:Nat):Int):=by rw [Int.tdiv_eq_ediv_of_nonneg (by omega)];omega
 have e2:Int.tmod (i:Int) 64=((i % 64:Nat):Int):=by rw [Int.tmod_eq_emod_of_nonneg (by omega)];omega
 unfold hasF bitN
 rw [e1,e2,Int.toNat_natCast]
 by_cases hk:i / 64 < b.length
 ·rw [if_neg (by rw [Bool.or_eq_true,decide_eq_true_eq,decide_eq_true_eq];omega),bitF_bit (getD_U64 hw _) (by omega)]
 ·rw [if_pos (by rw [Bool.or_eq_true,decide_eq_true_eq,decide_eq_true_eq];omega),getD_out hk]
  simp
theorem listF_nodup (c:List Int):(listF c).Nodup:=by
 unfold listF listG List.Nodup
 rw [List.pairwise_map]
 refine List.Pairwise.imp (fun h e=>h ?_) (List.Pairwise.filter _ List.nodup_range)
 exact Int.ofNat.inj e
theorem listF_mem {c:List Int} (hw:Wds c) {x:Int}:x∈listF c↔∃ i:Nat,x=(i:Int)∧bitN c i=true:=by
 unfold listF listG
 rw [List.mem_map]
 constructor
 ·rintro ⟨i,hi,rfl⟩
  rw [List.mem_filter] at hi
  exact ⟨i,rfl,by rw [← has_bit hw];exact hi.2⟩
 ·rintro ⟨i,rfl,hb⟩
  refine ⟨i,List.mem_filter.2 ⟨List.mem_range.2 ?_,by rw [has_bit hw];exact hb⟩,rfl⟩
  refine Classical.byContradiction fun hc=>?_
  unfold bitN at hb
  rw [getD_out (by omega)] at hb
  simp at hb
theorem cnt_eq {a b:List Int} (ha:Wds a) (hb:Wds b) (h:∀ i,bitN a i=true→bitN b i=true) (hc:cnt b≤cnt a) (i:Nat) (hi:bitN b i=true):bitN a i=true:=by
 refine Classical.byContradiction fun hn=>?_
 have hx:(i:Int) ∉ listF a:=fun hm=>by
  obtain ⟨j,e,hj⟩:=(listF_mem ha).1 hm
  have:i=j:=Int.ofNat.inj e
  rw [this] at hn
  exact hn hj
 have:=nodup_le3 (l:=(i:Int) :: listF a) (l':=listF b) (List.nodup_cons.2 ⟨hx,listF_nodup a⟩) fun x hx=>by
  rcases List.mem_cons.1 hx with rfl | hx
  ·exact (listF_mem hb).2 ⟨i,rfl,hi⟩
  ·obtain ⟨j,rfl,hj⟩:=(listF_mem ha).1 hx
   exact (listF_mem hb).2 ⟨j,rfl,h j hj⟩
 rw [List.length_cons] at this
 unfold cnt at hc
 omega
theorem insAt_spec (x:CodedD) (out:List CodedD):∀ n,(insAt x out n=0→n=0∨beforeF x (out.getD 0 c0)=true)∧∀ k,insAt x out n=k + 1→beforeF x (out.getD k c0)=false
 | 0=>⟨fun _=>.inl rfl,fun k h=>by simp [insAt] at h⟩
 | n + 1=>by
  obtain ⟨h1,h2⟩:=insAt_spec x out n
  unfold insAt
  split
  ·rename_i hb
   refine ⟨fun e=>?_,h2⟩
   rcases h1 e with e | e
   ·subst e
    exact .inr hb
   ·exact .inr e
  ·rename_i hb
   refine ⟨fun e=>by omega,fun k e=>?_⟩
   have:n=k:=by omega
   subst this
   simpa using hb
theorem before_true {a b:CodedD} (h:beforeF a b=true):cnt b.2≤cnt a.2:=by
 unfold beforeF at h
 rw [Bool.or_eq_true,Bool.and_eq_true,decide_eq_true_eq,beq_iff_eq] at h
 unfold cnt
 omega
theorem before_false {a b:CodedD} (h:beforeF a b=false):cnt a.2≤cnt b.2:=by
 unfold beforeF at h
 rw [Bool.or_eq_false_iff,decide_eq_false_iff_not] at h
 unfold cnt
 omega
def HM (out:List CodedD):Prop:=∀ y∈out,cnt y.2≤cnt (out.getD 0 c0).2
theorem insC_HM {out:List CodedD} (h:HM out) (x:CodedD):HM (insC out x):=by
 obtain ⟨s1,s2⟩:=insAt_spec x out out.length
 have hle:=insAt_le x out out.length
 intro y hy
 rw [insC_mem] at hy
 unfold insC
 cases hk:insAt x out out.length with
 | zero =>
  rw [List.take_zero,List.drop_zero,List.nil_append]
  have e:([x]++out).getD 0 c0=x:=rfl
  rw [e]
  rcases hy with rfl | hy
  ·exact Nat.le_refl _
  ·have h1:=h y hy
   rcases s1 hk with e | e
   ·rw [List.eq_nil_of_length_eq_zero e] at hy
    cases hy
   ·exact Nat.le_trans h1 (before_true e)
 | succ k =>
  have hb:=before_false (s2 k hk)
  rw [hk] at hle
  have e:(out.take (k + 1)++[x]++out.drop (k + 1)).getD 0 c0=out.getD 0 c0:=by
   cases out with
   | nil=>simp at hle
   | cons z out=>rfl
  rw [e]
  rcases hy with rfl | hy
  ·exact Nat.le_trans hb (h _ (getD_mem (by omega)))
  ·exact h y hy
theorem coded_HM {d:List DeclD}:∀ {l:List (List Int)} {o:List CodedD},HM o→HM (l.foldl (codedA d) o)
 | [],_,h=>h
 | b :: l,o,h=>by
  rw [List.foldl_cons]
  exact coded_HM (insC_HM h _)
/-! Codes hold no other numbers than those of the declared types -/
def In (n:Nat) (c:List Int):Prop:=Wds c∧∀ i,bitN c i=true→i < n
theorem in_nil (n:Nat):In n []:=⟨fun x hx=>(by cases hx),fun i hi=>by unfold bitN at hi;simp at hi⟩
theorem in_and {n:Nat} {a b:List Int} (ha:In n a) (hb:In n b):In n (andF a b) :=
 ⟨and_wds ha.1 hb.1,fun i hi=>by
  rw [and_bit ha.1 hb.1,Bool.and_eq_true] at hi
  exact ha.2 i hi.1⟩
theorem in_getD {n:Nat} {l:List (List Int)} (h:∀ c∈l,In n c) (k:Nat):In n (l.getD k []):=by
 by_cases hk:k < l.length
 ·exact h _ (getD_mem hk)
 ·rw [getD_mem2 hk]
  exact in_nil n
theorem famK_in {n:Nat} {l:List (List Int)} (h:∀ c∈l,In n c) (i k:Nat):∀ c∈famK l i k,In n c:=by
 intro c hc
 unfold famK at hc
 split at hc
 ·rcases List.mem_append.1 hc with hc | hc
  ·exact h c hc
  ·have:c=andF (l.getD i []) (l.getD k []):=by simpa using hc
   rw [this]
   exact in_and (in_getD h i) (in_getD h k)
 ·exact h c hc
theorem famI_in {q i:Nat}:∀ {n k:Nat} {l:List (List Int)},(∀ c∈l,In q c)→∀ c∈famI i n k l,In q c
 | 0,_,_,h=>h
 | n + 1,k,l,h=>by
  unfold famI
  split
  ·exact famI_in (famK_in h i k)
  ·exact h
theorem famG_in {q:Nat}:∀ {n i:Nat} {l:List (List Int)},(∀ c∈l,In q c)→∀ c∈famG n i l,In q c
 | 0,_,_,h=>h
 | n + 1,i,l,h=>by
  unfold famG
  split
  ·exact famG_in (famI_in h)
  ·exact h
def HTop (h:HierD):Prop:=∀ t,0≤t→t < (h.1.length:Int)→hsubF h 0 t=true
theorem compile_top (d:List DeclD):HTop (compileF d).1:=by
 have hk:=compile_hok d
 unfold compileF at hk ⊢
 split
 ·intro t h0 h1
  simp at h1
  omega
 ·rename_i hv
  rw [if_neg hv] at hk
  have hv:(valuesF d).2=0:=Classical.byContradiction hv
  have h5:check5F d=0:=by
   unfold valuesF at hv
   split at hv
   ·rename_i h;exact absurd hv h
   ·rename_i h;exact Classical.byContradiction h
  obtain ⟨hz,-,-⟩:=check5_zero h5
  obtain ⟨h3,hlen,-⟩:=codesF_zero hz
  obtain ⟨-,h2,-,hn,hl⟩:=check3_zero h3
  have hnl:=namesL_len d d.length
  rw [List.take_length] at hnl
  have hal:(namesL d).length≤4096:=by omega
  obtain ⟨r,hr,hbel⟩:=below_root h3
  have hin:∀ c∈familyF (codesL d),In (namesL d).length c:=famG_in fun c hc=>by
   obtain ⟨s,hs,rfl⟩:=List.mem_map.1 hc
   exact ⟨(code_bit (d:=d) hal s 0).2.1,fun i hi=>((code_bit (d:=d) hal s i).1.1 hi).1⟩
  obtain ⟨s,hs,es⟩:=List.any_eq_true.1 (namesL_has hr)
  have hsr:s=r.1:=by
   obtain ⟨x,hx,rfl⟩:=namesL_mem hs
   rw [decl_inj hn hx hr es]
  subst hsr
  have hc0:codeF d (namesL d) r.1∈familyF (codesL d):=by
   have hp:codesL d <+: familyF (codesL d):=famG_pre 257 0 (codesL d)
   exact hp.subset (List.mem_map.2 ⟨_,hs,rfl⟩)
  have hall:∀ i,i < (namesL d).length→bitN (codeF d (namesL d) r.1) i=true:=fun i hi=>by
   refine (code_bit (d:=d) hal r.1 i).1.2 ⟨hi,?_⟩
   obtain ⟨x,hx,e⟩:=namesL_mem (getD_mem (d:=ByteArray.empty) hi)
   rw [← e]
   exact hbel x hx
  have hHM:HM (codesR d):=coded_HM fun y hy=>by cases hy
  have hmem0:=codesR_mem.2 ⟨_,hc0,rfl⟩
  have hpos:0 < (codesR d).length:=List.length_pos_of_mem hmem0
  have hmax:=hHM _ hmem0
  obtain ⟨b,hb,eb⟩:=codesR_mem.1 (getD_mem (d:=c0) hpos)
  rw [eb] at hmax
  have hfull:=cnt_eq (hin b hb).1 (hin _ hc0).1 (fun i hi=>hall i ((hin b hb).2 i hi)) hmax
  have hcode:codeT (hierV d) 0=b:=by
   show ((typeG (codesR d) _ _).getD 0 t0D).2.1=b
   have:(typeG (codesR d) (valuesF d).1 (codesR d).length).getD 0 t0D=(((codesR d).getD 0 c0).1,((codesR d).getD 0 c0).2,supsF (codesR d) ((0:Nat):Int),(valuesF d).1.getD 0 []):=by
    unfold typeG
    rw [List.getD_eq_getElem?_getD,List.getElem?_map,List.getElem?_range hpos]
    rfl
   rw [this,eb]
  have hlenT:(hierV d).1.length=(codesR d).length:=typeG_len _ _ _
  intro t t0 t1
  refine (hsub_iff hk (by omega) (by show (0:Int) < ((hierV d).1.length:Int);omega) t0 t1).2 fun i hi=>?_
  show bitN (codeT (hierV d) 0) i=true
  rw [hcode]
  refine hfull i (hall i ?_)
  have hcm:=code_mem t0 t1
  have hmem:codeT (hierV d) t∈familyF (codesL d):=by
   have e:((hierV d).1.map fun t=>t.2.1)=(codesR d).map fun x=>x.2:=by
    show ((typeG _ _ _).map fun t=>t.2.1)=_
    unfold typeG
    rw [List.map_map]
    apply List.ext_getElem
    ·simp
    ·intro i h1 h2
     simp [List.getD_eq_getElem?_getD,show i < (codesR d).length by simpa using h1]
   have hcm2:codeT (hierV d) t∈(hierV d).1.map fun t=>t.2.1:=hcm
   rw [e] at hcm2
   obtain ⟨x,hx,ex⟩:=List.mem_map.1 hcm2
   obtain ⟨c,hc,rfl⟩:=codesR_mem.1 hx
   rw [← ex]
   exact hc
  exact (hin _ hmem).2 i hi
end
/- Plain: the types of classes, the arcs of classes; grammarlabref11.Unify and unify.Unify compute one structure. -/
section
def NrmH (h:HierD):Prop:=∀ t∈h.1,Nrm t.2.1
theorem findT_some {b:List Int}:∀ {l:List TypeD} {k:Nat},(findT b l k).2=true→∃ j:Nat,j < l.length∧(findT b l k).1=((k + j:Nat):Int)∧(l.getD j t0D).2.1=b
 | [],k,h=>by cases h
 | t :: r,k,h=>by
  unfold findT at h ⊢
  by_cases e:t.2.1=b
  ·rw [if_pos e]
   exact ⟨0,by simp,by simp,by simpa using e⟩
  ·rw [if_neg e] at h ⊢
   obtain ⟨j,h1,h2,h3⟩:=findT_some h
   exact ⟨j + 1,by simp only [List.length_cons];omega,by rw [h2];congr 1;omega,by simpa using h3⟩
theorem findT_of {b:List Int}:∀ {l:List TypeD} {k:Nat},(∃ t∈l,t.2.1=b)→(findT b l k).2=true
 | [],k,⟨t,ht,_⟩=>by cases ht
 | t :: r,k,⟨u,hu,e⟩=>by
  unfold findT
  by_cases e2:t.2.1=b
  ·rw [if_pos e2]
  ·rw [if_neg e2]
   rcases List.mem_cons.1 hu with rfl | hu
   ·exact absurd e e2
   ·exact findT_of ⟨u,hu,e⟩
theorem meet6_set {h:HierD} (hk:HOk h) (hn:NrmH h) {a b:Int} (a0:0≤a) (a1:a < (h.1.length:Int)) (b0:0≤b) (b1:b < (h.1.length:Int)) :
  ((meet6F h a b).2=true→0≤(meet6F h a b).1∧(meet6F h a b).1 < (h.1.length:Int)∧∀ i,Tb2 h (meet6F h a b).1 i=(Tb2 h a i && Tb2 h b i))∧((∃ i,Tb2 h a i=true∧Tb2 h b i=true)→(meet6F h a b).2=true):=by
 have wa:=hk.1.wds _ (code_mem a0 a1)
 have wb:=hk.1.wds _ (code_mem b0 b1)
 refine ⟨fun hm=>?_,fun hi=>?_⟩
 ·obtain ⟨j,h1,h2,h3⟩:=findT_some hm
  have h2:(meet6F h a b).1=((0 + j:Nat):Int):=h2
  refine ⟨by omega,by omega,fun i=>?_⟩
  have e:codeT h (meet6F h a b).1=andF (codeT h a) (codeT h b):=by
   rw [← h3]
   unfold codeT
   rw [h2]
   simp
  unfold Tb2
  rw [e,and_bit wa wb]
 ·obtain ⟨t,ht,e⟩:=hk.1.meet _ (code_mem a0 a1) _ (code_mem b0 b1) hi
  obtain ⟨x,hx,rfl⟩:=List.mem_map.1 ht
  exact findT_of ⟨x,hx,nrm_eq (hk.1.wds _ ht) (and_wds wa wb) (hn x hx) (normal_nrm _) fun i=>by rw [e i,and_bit wa wb]⟩
theorem meet6_law {h:HierD} (hk:HOk h) (hn:NrmH h) {a b:Int} (a0:0≤a) (a1:a < (h.1.length:Int)) (b0:0≤b) (b1:b < (h.1.length:Int)) :
  ((meet6F h a b).2=true→0≤(meet6F h a b).1∧(meet6F h a b).1 < (h.1.length:Int)∧hsubF h a (meet6F h a b).1=true∧hsubF h b (meet6F h a b).1=true) ∧
  ∀ x,0≤x→x < (h.1.length:Int)→hsubF h a x=true→hsubF h b x=true→(meet6F h a b).2=true∧hsubF h (meet6F h a b).1 x=true:=by
 obtain ⟨m1,m2⟩:=meet6_set hk hn a0 a1 b0 b1
 refine ⟨fun e=>?_,fun x x0 x1 hax hbx=>?_⟩
 ·obtain ⟨q0,q1,q2⟩:=m1 e
  refine ⟨q0,q1,(hsub_iff hk a0 a1 q0 q1).2 fun i hi=>?_,(hsub_iff hk b0 b1 q0 q1).2 fun i hi=>?_⟩
  ·rw [q2 i,Bool.and_eq_true] at hi;exact hi.1
  ·rw [q2 i,Bool.and_eq_true] at hi;exact hi.2
 ·have ga:=(hsub_iff hk a0 a1 x0 x1).1 hax
  have gb:=(hsub_iff hk b0 b1 x0 x1).1 hbx
  obtain ⟨i,hi⟩:=hk.1.some _ (code_mem x0 x1)
  have e:=m2 ⟨i,ga i hi,gb i hi⟩
  obtain ⟨q0,q1,q2⟩:=m1 e
  refine ⟨e,(hsub_iff hk q0 q1 x0 x1).2 fun j hj=>?_⟩
  rw [q2 j,Bool.and_eq_true]
  exact ⟨ga j hj,gb j hj⟩
section
variable {h:HierD} {N:List GNode} {c:List Int}
theorem ty_at (ht:TyOk h N) {x:Nat} (hx:x < N.length):0≤(N.getD x (0,[])).1∧(N.getD x (0,[])).1 < (h.1.length:Int):=ht _ (mem_of_take_succ N (0,[]) hx)
theorem typG_up (hk:HOk h) (hn:NrmH h) (h0:0 < h.1.length) (ht:TyOk h N) (hc:RepC N.length c):∀ {i:Nat} {p:List Int},i≤N.length→typG h N c i=some p→∀ x,x < i→hsubF h (N.getD x (0,[])).1 (p.getD (c.getD x 0).toNat 0)=true
 | 0,p,_,_,x,hx=>by omega
 | i + 1,p,hi,hp,x,hx=>by
  simp only [typG] at hp
  cases hq:typG h N c i with
  | none=>rw [hq] at hp;cases hp
  | some q =>
   rw [hq] at hp
   simp only at hp
   split at hp
   ·rename_i hm
    cases hp
    obtain ⟨ql,qr⟩:=typG_ok h0 hc (by omega) hq
    obtain ⟨r1,r2,r3⟩:=hc.2 i (by omega)
    have tq:=qr (c.getD i 0).toNat (by omega)
    have ti:=ty_at ht (x:=i) (by omega)
    obtain ⟨m0,m1,m2,m3⟩:=(meet6_law hk hn tq.1 tq.2 ti.1 ti.2).1 hm
    obtain ⟨s1,s2,s3⟩:=hc.2 x (by omega)
    rw [getD_setZ _ _ _ _ (by omega)]
    by_cases e:x=i
    ·subst e
     rw [if_pos rfl]
     exact m3
    ·have ih:=typG_up hk hn h0 ht hc (by omega) hq x (by omega)
     split
     ·rename_i e2
      rw [e2] at ih
      have tx:=ty_at ht (x:=x) (by omega)
      exact hsub_trans hk tx.1 tx.2 tq.1 tq.2 m0 m1 ih m2
     ·exact ih
   ·cases hp
theorem typG_least (hk:HOk h) (hn:NrmH h) (h0:0 < h.1.length) (htop:HTop h) (ht:TyOk h N) (hc:RepC N.length c) {u:Nat→Int} (hu:∀ k,k < N.length→0≤u k∧u k < (h.1.length:Int)) (hb:∀ x,x < N.length→hsubF h (N.getD x (0,[])).1 (u (c.getD x 0).toNat)=true) :
  ∀ {i:Nat},i≤N.length→∃ p,typG h N c i=some p∧∀ k,k < N.length→hsubF h (p.getD k 0) (u k)=true
 | 0,_=>by
  refine ⟨_,rfl,fun k hk=>?_⟩
  rw [List.getD_eq_getElem?_getD,List.getElem?_replicate,if_pos hk]
  exact htop _ (hu k hk).1 (hu k hk).2
 | i + 1,hi=>by
  obtain ⟨q,hq,hqu⟩:=typG_least hk hn h0 htop ht hc hu hb (i:=i) (by omega)
  obtain ⟨ql,qr⟩:=typG_ok h0 hc (by omega) hq
  obtain ⟨r1,r2,r3⟩:=hc.2 i (by omega)
  have tq:=qr (c.getD i 0).toNat (by omega)
  have ti:=ty_at ht (x:=i) (by omega)
  have hul:=hu (c.getD i 0).toNat (by omega)
  obtain ⟨m1,m2⟩:=(meet6_law hk hn tq.1 tq.2 ti.1 ti.2).2 _ hul.1 hul.2 (hqu _ (by omega)) (hb i (by omega))
  refine ⟨q.set (c.getD i 0).toNat (meet6F h (q.getD (c.getD i 0).toNat 0) (N.getD i (0,[])).1).1,by simp only [typG,hq];rw [if_pos m1],fun k hk=>?_⟩
  rw [getD_setZ _ _ _ _ (by omega)]
  split
  ·rename_i e;rw [e];exact m2
  ·exact hqu k hk
end
/-! The arcs of the classes -/
theorem arcsQ_law (c:List Int):∀ (l L:List (Int×Int)),(L.map (·.1)).Nodup→((arcsQ c L l).map (·.1)).Nodup∧(∀ a∈L,a∈arcsQ c L l)∧(∀ a∈arcsQ c L l,a∈L∨∃ b∈l,a=(b.1,c.getD b.2.toNat 0))∧(∀ b∈l,∃ t,(b.1,t)∈arcsQ c L l)
 | [],L,hL=>⟨hL,fun _ h=>h,fun _ h=>.inl h,fun _ h=>by cases h⟩
 | x :: l,L,hL=>by
  have e:arcsQ c L (x :: l)=arcsQ c (arc1 c L x) l:=rfl
  rw [e]
  have h1:((arc1 c L x).map (·.1)).Nodup∧(∀ a∈L,a∈arc1 c L x)∧(∀ a∈arc1 c L x,a∈L∨a=(x.1,c.getD x.2.toNat 0))∧∃ t,(x.1,t)∈arc1 c L x:=by
   unfold arc1
   split
   ·rename_i ht
    exact ⟨hL,fun _ h=>h,fun _ h=>.inl h,_,tar_mem ht⟩
   ·rename_i ht
    refine ⟨?_,fun _ h=>List.mem_append_left _ h,fun a h=>?_,c.getD x.2.toNat 0,List.mem_append_right _ (by simp)⟩
    ·rw [List.map_append,List.nodup_append]
     refine ⟨hL,by simp,fun y hy z hz e=>?_⟩
     obtain ⟨a,ha,rfl⟩:=List.mem_map.1 hy
     have hz:z=x.1:=by simpa using hz
     exact ht (tar_some a ha (e.trans hz))
    ·rcases List.mem_append.1 h with h | h
     ·exact .inl h
     ·exact .inr (by simpa using h)
  obtain ⟨n1,s1,i1,t1,ht1⟩:=h1
  obtain ⟨n2,s2,i2,c2⟩:=arcsQ_law c l _ n1
  refine ⟨n2,fun a ha=>s2 a (s1 a ha),fun a ha=>?_,fun b hb=>?_⟩
  ·rcases i2 a ha with h | ⟨b,hb,h⟩
   ·rcases i1 a h with h | h
    ·exact .inl h
    ·exact .inr ⟨x,by simp,h⟩
   ·exact .inr ⟨b,by simp [hb],h⟩
  ·rcases List.mem_cons.1 hb with rfl | hb
   ·exact ⟨t1,s2 _ ht1⟩
   ·exact c2 b hb
structure RowsL (N:List GNode) (c t:List Int) (i:Nat) (g:List GNode):Prop where
 len:g.length=N.length
 ty:∀ k,k < N.length→(g.getD k (0,[])).1=t.getD k 0
 nd:∀ k,((g.getD k (0,[])).2.map (·.1)).Nodup
 inn:∀ k,∀ a∈(g.getD k (0,[])).2,∃ x,x < i∧(c.getD x 0).toNat=k∧∃ b∈(N.getD x (0,[])).2,b.1=a.1∧a.2=c.getD b.2.toNat 0
 cov:∀ x,x < i→∀ b∈(N.getD x (0,[])).2,∃ u,(b.1,u)∈(g.getD (c.getD x 0).toNat (0,[])).2
theorem rowsQ_law {N:List GNode} {c t:List Int} (hc:RepC N.length c):∀ {i:Nat},i≤N.length→RowsL N c t i (rowsQ N c t i)
 | 0,_=>by
  have hg:∀ k,(rowsQ N c t 0).getD k (0,[])=if k < N.length then (t.getD k 0,[]) else (0,[]):=fun k=>by
   unfold rowsQ
   rw [List.getD_eq_getElem?_getD,List.getElem?_map]
   by_cases hk:k < N.length
   ·rw [List.getElem?_range hk,if_pos hk];rfl
   ·rw [List.getElem?_eq_none (by simp;omega),if_neg hk];rfl
  refine ⟨by simp [rowsQ],fun k hk=>by rw [hg,if_pos hk],fun k=>?_,fun k a ha=>?_,fun x hx=>by omega⟩
  ·rw [hg];split<;>simp
  ·rw [hg] at ha
   split at ha<;>cases ha
 | i + 1,hi=>by
  have ih:=rowsQ_law (t:=t) hc (i:=i) (by omega)
  obtain ⟨r1,r2,r3⟩:=hc.2 i (by omega)
  have hlt:(c.getD i 0).toNat < (rowsQ N c t i).length:=by rw [ih.len];omega
  have e:rowsQ N c t (i + 1)=nodeQ c (rowsQ N c t i) i (N.getD i (0,[])).2:=rfl
  rw [e]
  generalize rowsQ N c t i=g at *
  obtain ⟨l1,l2,l3,l4⟩:=arcsQ_law c (N.getD i (0,[])).2 (g.getD (c.getD i 0).toNat (0,[])).2 (ih.nd _)
  have hg:∀ k,(nodeQ c g i (N.getD i (0,[])).2).getD k (0,[])=if k=(c.getD i 0).toNat then ((g.getD k (0,[])).1,arcsQ c (g.getD k (0,[])).2 (N.getD i (0,[])).2) else g.getD k (0,[]):=fun k=>by
   unfold nodeQ
   rw [getD_setG _ _ _ _ hlt]
   by_cases e:k=(c.getD i 0).toNat
   ·rw [if_pos e,if_pos e,e]
   ·rw [if_neg e,if_neg e]
  refine ⟨by rw [nodeQ_len];exact ih.len,fun k hk=>?_,fun k=>?_,fun k a ha=>?_,fun x hx b hb=>?_⟩
  ·rw [hg];split
   ·exact ih.ty k hk
   ·exact ih.ty k hk
  ·rw [hg];split
   ·rename_i e;rw [e];exact l1
   ·exact ih.nd k
  ·rw [hg] at ha
   split at ha
   ·rename_i e
    subst e
    rcases l3 a ha with h | ⟨b,hb,h⟩
    ·obtain ⟨x,h1,h2⟩:=ih.inn _ a h
     exact ⟨x,by omega,h2⟩
    ·exact ⟨i,by omega,rfl,b,hb,by rw [h],by rw [h]⟩
   ·obtain ⟨x,h1,h2⟩:=ih.inn _ a ha
    exact ⟨x,by omega,h2⟩
  ·rw [hg]
   by_cases ex:x=i
   ·subst ex
    rw [if_pos rfl]
    exact l4 b hb
   ·obtain ⟨u,hu⟩:=ih.cov x (by omega) b hb
    split
    ·rename_i e
     rw [e] at hu ⊢
     exact ⟨u,l2 _ hu⟩
    ·exact ⟨u,hu⟩
end
/- Plain: grammarlabref11.Unify and unify.Unify compute one structure. -/
section
/-! Nodes whose arcs are put in order -/
def sortN (f:List GNode):List GNode:=f.map fun x=>(x.1,sortedF x.2)
theorem sortN_len (f:List GNode):(sortN f).length=f.length:=by simp [sortN]
theorem sortN_get (f:List GNode) (k:Nat):(sortN f).getD k (0,[])=((f.getD k (0,[])).1,sortedF (f.getD k (0,[])).2):=by
 unfold sortN
 rw [List.getD_eq_getElem?_getD,List.getElem?_map,List.getD_eq_getElem?_getD]
 cases f[k]?<;>rfl
theorem nd_str {l:List (Int×Int)} (h:(l.map (·.1)).Nodup):Str (sortedF l):=by
 have hp:=sortedF_perm l
 have h1:=sortedF_sorted l
 have h2:((sortedF l).map (·.1)).Nodup:=((hp.map _).nodup_iff).2 h
 rw [List.Nodup,List.pairwise_map] at h2
 exact (h1.and h2).imp fun ⟨a,b⟩=>by omega
theorem sort_idem {l:List (Int×Int)} (h:(l.map (·.1)).Nodup):sortedF (sortedF l)=sortedF l:=sortedF_srt ((srtA_iff _).2 (nd_str h))
theorem visit_sortN {f:List GNode} (h:∀ k,((f.getD k (0,[])).2.map (·.1)).Nodup):∀ (k:Nat) (s:List Int×List Int) (n:Int),visitF (sortN f) k s n=visitF f k s n
 | 0,_,_=>rfl
 | k + 1,s,n=>by
  rw [visitF_succ,visitF_succ,sortN_get,sort_idem (h _)]
  congr 1
  funext t a
  unfold stepV
  rw [visit_sortN h k]
theorem from_sortN {f:List GNode} (h:∀ k,((f.getD k (0,[])).2.map (·.1)).Nodup) (root:Int):fromF (sortN f) root=fromF f root:=by
 unfold fromF travF
 rw [sortN_len,visit_sortN h]
 congr 1
 funext n
 unfold nodeF
 rw [sortN_get,sort_idem (h _)]
/-! Classes as a forest -/
theorem repC_rt {n:Nat} {c:List Int} (hc:RepC n c) {x:Int} (x0:0≤x) (x1:x < (n:Int)):Rt c x (c.getD x.toNat 0):=by
 obtain ⟨h1,h2,h3⟩:=hc.2 x.toNat (by omega)
 have hb:Rt c (c.getD x.toNat 0) (c.getD x.toNat 0):=.base h3
 by_cases e:par c x=x
 ·have e:c.getD x.toNat 0=x:=e
  rw [e] at hb ⊢
  exact hb
 ·exact .step e hb
theorem repC_fo {n:Nat} {c:List Int} (hc:RepC n c):∃ rk,Fo c rk:=by
 refine ⟨fun z=>if par c z=z then 0 else 1,fun z z0 z1=>?_,fun z z0 z1 hne=>?_⟩
 ·have:=hc.1
  obtain ⟨h1,h2,h3⟩:=hc.2 z.toNat (by omega)
  exact ⟨h1,by unfold par;omega⟩
 ·have:=hc.1
  obtain ⟨h1,h2,h3⟩:=hc.2 z.toNat (by omega)
  have h3:par c (par c z)=par c z:=h3
  show (if par c (par c z)=par c z then 0 else 1) < (if par c z=z then 0 else 1)
  rw [if_pos h3,if_neg hne]
  exact Nat.zero_lt_one
theorem repC_rtF {n:Nat} {c:List Int} (hc:RepC n c) {x:Int} (x0:0≤x) (x1:x < (n:Int)):rtF c x=c.getD x.toNat 0:=rtF_eq (repC_rt hc x0 x1)
theorem eq_eg {n:Nat} {c:List Int} (hc:RepC n c) {x y:Int} (x0:0≤x) (x1:x < (n:Int)) (y0:0≤y) (y1:y < (n:Int)) (h:c.getD x.toNat 0=c.getD y.toNat 0):EG n c [] x y:=.cls x0 x1 y0 y1 (repC_rt hc x0 x1) (by rw [h];exact repC_rt hc y0 y1)
def tyQ (c p:List Int) (n:Nat):List Int:=(List.range n).map fun (k:Nat)=>p.getD (c.getD k 0).toNat 0
theorem tyQ_get {c p:List Int} {n k:Nat} (hk:k < n):(tyQ c p n).getD k 0=p.getD (c.getD k 0).toNat 0:=by
 unfold tyQ
 rw [List.getD_eq_getElem?_getD,List.getElem?_map,List.getElem?_range hk];rfl
def arQ (g:List GNode):List (List (Int×Int)):=g.map fun x=>sortedF x.2
theorem arQ_get (g:List GNode) (k:Nat):(arQ g).getD k []=sortedF (g.getD k (0,[])).2:=by
 unfold arQ
 rw [List.getD_eq_getElem?_getD,List.getElem?_map,List.getD_eq_getElem?_getD]
 cases g[k]?<;>rfl
structure RC (h:HierD) (N:List GNode) (P:List (Int×Int)) (c p:List Int) (g:List GNode):Prop where
 good:GoodF N
 ty:TyOk h N
 rep:RepC N.length c
 types:typG h N c N.length=some p
 rows:RowsL N c (tyQ c p N.length) N.length g
 jc:∃ ar,JC h N P c ar []
theorem rc_same {h:HierD} {N:List GNode} {P:List (Int×Int)} {c p:List Int} {g:List GNode} (hr:RC h N P c p g) {x y:Nat} (hx:x < N.length) (hy:y < N.length) (hxy:c.getD x 0=c.getD y 0) {a b:Int×Int} (ha:a∈(N.getD x (0,[])).2) (hb:b∈(N.getD y (0,[])).2) (hab:a.1=b.1):c.getD a.2.toNat 0=c.getD b.2.toNat 0:=by
 obtain ⟨ar,hj⟩:=hr.jc
 obtain ⟨t1,g1,e1⟩:=hj.sa (x:Int) (by omega) (by omega) a (by simpa [arcsAt] using ha)
 obtain ⟨t2,g2,e2⟩:=hj.sa (y:Int) (by omega) (by omega) b (by simpa [arcsAt] using hb)
 rw [Int.toNat_natCast] at g1 g2
 rw [hxy] at g1
 rw [hab] at g1
 have hnd:=hj.nd (c.getD y 0).toNat
 have:t1=t2:=by
  have key:∀ (l:List (Int×Int)),(l.map (·.1)).Nodup→∀ f u v,(f,u)∈l→(f,v)∈l→u=v:=by
   intro l
   induction l with
   | nil=>intro _ f u v h;cases h
   | cons z l ih =>
    intro hn f u v h1 h2
    rw [List.map_cons,List.nodup_cons] at hn
    rcases List.mem_cons.1 h1 with e1 | h1<;>rcases List.mem_cons.1 h2 with e2 | h2
    ·rw [← e1] at e2;injection e2 with _ e2;exact e2.symm
    ·exact absurd (List.mem_map.2 ⟨_,h2,by rw [← e1]⟩) hn.1
    ·exact absurd (List.mem_map.2 ⟨_,h1,by rw [← e2]⟩) hn.1
    ·exact ih hn.2 f u v h1 h2
  exact key _ hnd _ _ _ g1 g2
 subst this
 rw [e1.nil,e2.nil]
section
variable {h:HierD} {N:List GNode} {P:List (Int×Int)} {c p:List Int} {g:List GNode}
theorem rc_ji (hk:HOk h) (hn:NrmH h) (htop:HTop h) (h0:0 < h.1.length) (hr:RC h N P c p g):JI h N P c (tyQ c p N.length) (arQ g) []:=by
 obtain ⟨ar,hj⟩:=hr.jc
 have hc:=hr.rep
 have hcl:=hc.1
 obtain ⟨pl,pr⟩:=typG_ok h0 hc (Nat.le_refl _) hr.types
 have hup:=typG_up hk hn h0 hr.ty hc (Nat.le_refl _) hr.types
 have hrow:=hr.rows
 have hmem:∀ k,∀ a∈(arQ g).getD k [],a∈(g.getD k (0,[])).2:=fun k a ha=>by
  rw [arQ_get] at ha
  exact (sortedF_perm _).mem_iff.1 ha
 have hmem2:∀ k,∀ a∈(g.getD k (0,[])).2,a∈(arQ g).getD k []:=fun k a ha=>by
  rw [arQ_get]
  exact (sortedF_perm _).mem_iff.2 ha
 have hcr:∀ x,x < N.length→0≤c.getD x 0∧c.getD x 0 < (N.length:Int):=fun x hx=>by
  obtain ⟨r1,r2,r3⟩:=hc.2 x hx
  exact ⟨r1,by omega⟩
 have hat:∀ x,x < N.length→∀ b∈(N.getD x (0,[])).2,0≤b.2∧b.2 < (N.length:Int):=fun x hx b hb=>(hr.good.2 _ (mem_of_take_succ N (0,[]) hx)).2 b hb
 refine ⟨hr.ty,repC_fo hc,hcl,by simp [tyQ],by simp [arQ,hrow.len],fun w hw=>(by cases hw),fun x x0 x1=>?_,fun k a ha=>?_,fun k=>?_,fun q hq=>?_,fun x r x0 x1 hxr=>?_,fun x r x0 x1 hxr a ha=>?_,fun X v hX hv=>?_⟩
 ·rw [tyQ_get (by omega)]
  have:=hcr x.toNat (by omega)
  exact pr _ (by omega)
 ·obtain ⟨x,hx,hxk,b,hb,e1,e2⟩:=hrow.inn k a (hmem k a ha)
  have hb2:=hat x hx b hb
  refine ⟨by rw [e2];exact hcr _ (by omega),?_⟩
  rw [← e1]
  unfold featsN
  exact List.mem_flatMap.2 ⟨_,mem_of_take_succ N (0,[]) hx,List.mem_map.2 ⟨b,hb,rfl⟩⟩
 ·rw [arQ_get]
  exact nd_str (hrow.nd k)
 ·have hq2:=hj.sp q hq
  have he:=hq2.nil
  have hq3:(0≤q.1∧q.1 < (N.length:Int))∧(0≤q.2∧q.2 < (N.length:Int)):=by
   have key:∀ {x y:Int},EQ N.length c [] x y→(0≤x∧x < (N.length:Int))∧(0≤y∧y < (N.length:Int)):=by
    intro x y h
    induction h with
    | cls a b c d _=>exact ⟨⟨a,b⟩,c,d⟩
    | wt h=>cases h
    | symm _ ih=>exact ⟨ih.2,ih.1⟩
    | trans _ _ i1 i2=>exact ⟨i1.1,i2.2⟩
   exact key hq2
  exact eq_eg hc hq3.1.1 hq3.1.2 hq3.2.1 hq3.2.2 he
 ·have e:=(repC_rt hc x0 x1).det hxr
  subst e
  have h1:=hcr x.toNat (by omega)
  rw [tyQ_get (by omega),(hc.2 x.toNat (by omega)).2.2]
  exact hup x.toNat (by omega)
 ·have e:=(repC_rt hc x0 x1).det hxr
  subst e
  have ha:a∈(N.getD x.toNat (0,[])).2:=ha
  obtain ⟨u,hu⟩:=hrow.cov x.toNat (by omega) a ha
  refine ⟨u,hmem2 _ _ hu,?_⟩
  obtain ⟨y,hy,hyk,b,hb,e1,e2⟩:=hrow.inn _ _ hu
  have hcx:=hcr x.toNat (by omega)
  have hcy:=hcr y hy
  have hxy:c.getD x.toNat 0=c.getD y 0:=by omega
  have hs:=rc_same hr (by omega) hy hxy ha hb e1.symm
  have ha2:=hat x.toNat (by omega) a ha
  have hb2:=hat y hy b hb
  have hcb:=hcr b.2.toNat (by omega)
  have e2:u=c.getD b.2.toNat 0:=e2
  refine eq_eg hc ha2.1 ha2.2 (by omega) (by omega) ?_
  rw [e2,(hc.2 b.2.toNat (by omega)).2.2]
  exact hs
 ·obtain ⟨c1,c2,c3⟩:=hj.co X v hv
  obtain ⟨q,hq,hqu⟩:=typG_least (i:=N.length) hk hn h0 htop hr.ty hc (u:=fun k=>(X.getD (v (k:Int)).toNat (0,[])).1)
   (fun k hk=>by
    have:=hv.rng (k:Int) (by omega) (by omega)
    exact hX _ (mem_of_take_succ X (0,[]) (by omega)))
   (fun x hx=>by
    have h1:=hv.ty (x:Int) (by omega) (by omega)
    rw [Int.toNat_natCast] at h1
    have h2:=c1 (x:Int) (by omega) (by omega)
    rw [Int.toNat_natCast] at h2
    have h3:=hcr x hx
    rw [show (((c.getD x 0).toNat:Nat):Int)=c.getD x 0 by omega,← h2]
    exact h1) (Nat.le_refl _)
  rw [hr.types] at hq
  cases hq
  refine ⟨fun x r x0 x1 hxr=>?_,fun w hw=>(by cases hw),fun r r0 r1 hrr=>?_,fun r r0 r1 hrr a ha=>?_⟩
  ·have e:=(repC_rt hc x0 x1).det hxr
   subst e
   exact c1 x x0 x1
  ·have hrr:c.getD r.toNat 0=r:=hrr
   rw [tyQ_get (by omega),hrr]
   have:=hqu r.toNat (by omega)
   rwa [show ((r.toNat:Nat):Int)=r by omega] at this
  ·have hrr:c.getD r.toNat 0=r:=hrr
   obtain ⟨x,hx,hxk,b,hb,e1,e2⟩:=hrow.inn _ a (hmem _ a ha)
   have hcx:=hcr x hx
   have hxr:c.getD x 0=r:=by omega
   have hvx:=c1 (x:Int) (by omega) (by omega)
   rw [Int.toNat_natCast,hxr] at hvx
   have hb2:=hat x hx b hb
   have hvb:=c1 b.2 hb2.1 hb2.2
   have:=hv.arc (x:Int) (by omega) (by omega) b (by simpa [arcsAt] using hb)
   rw [hvx,e1,hvb,← e2] at this
   exact this
theorem rc_quo (hr:RC h N P c p g):sortN g=quo c (tyQ c p N.length) (arQ g):=by
 have hc:=hr.rep
 have hl:=hr.rows.len
 apply List.ext_getElem?
 intro k
 by_cases hk:k < N.length
 ·have e1:(sortN g)[k]?=some ((sortN g).getD k (0,[])):=by
   rw [List.getD_eq_getElem?_getD,List.getElem?_eq_getElem (by rw [sortN_len];omega)];rfl
  have e2:(quo c (tyQ c p N.length) (arQ g))[k]?=some ((quo c (tyQ c p N.length) (arQ g)).getD k (0,[])):=by
   rw [List.getD_eq_getElem?_getD,List.getElem?_eq_getElem (by rw [quo_len,hc.1];omega)];rfl
  have e3:=quo_get (p:=c) (ty:=tyQ c p N.length) (ar:=arQ g) (n:=(k:Int)) (by omega) (by rw [hc.1];omega)
  rw [Int.toNat_natCast] at e3
  rw [e1,e2,e3,sortN_get,hr.rows.ty k hk,arQ_get]
  congr 2
  symm
  rw [List.map_congr_left (g:=id) fun a ha=>?_,List.map_id]
  have ha:=(sortedF_perm _).mem_iff.1 ha
  obtain ⟨x,hx,hxk,b,hb,f1,f2⟩:=hr.rows.inn k a ha
  have hb2:=(hr.good.2 _ (mem_of_take_succ N (0,[]) hx)).2 b hb
  obtain ⟨r1,r2,r3⟩:=hc.2 b.2.toNat (by omega)
  rw [f2.symm] at r1 r2 r3
  rw [repC_rtF hc r1 (by omega),r3]
  rfl
 ·rw [List.getElem?_eq_none (by rw [sortN_len];omega),List.getElem?_eq_none (by rw [quo_len,hc.1];omega)]
end
theorem sortN_srt {h:HierD} {N:List GNode} {P:List (Int×Int)} {c p:List Int} {g:List GNode} (hr:RC h N P c p g) (hf:Ft64 N):SrtF (sortN g):=by
 intro x hx
 obtain ⟨y,hy,rfl⟩:=List.mem_map.1 hx
 obtain ⟨k,hk,rfl⟩:=List.mem_iff_getElem.1 hy
 have e:g[k]=g.getD k (0,[]):=by rw [List.getD_eq_getElem?_getD,List.getElem?_eq_getElem hk];rfl
 rw [e]
 have hst:=nd_str (hr.rows.nd k)
 refine ⟨(srtA_iff _).2 hst,Nat.le_trans (str_64 hst fun a ha=>?_) (by omega)⟩
 obtain ⟨x,hx,_,b,hb,f1,_⟩:=hr.rows.inn k a ((sortedF_perm _).mem_iff.1 ha)
 rw [← f1]
 exact hf _ (mem_of_take_succ N (0,[]) hx) b hb
def clsF (a b:List GNode):List Int:=closeF (joinN a b) (mergeF (apartF (joinN a b).length) 0 (a.length:Int))
def uni11F (h:HierD) (a b:List GNode):List GNode×Bool :=
 if (typesF h (joinN a b) (clsF a b)).2=true then (quotF (joinN a b) (clsF a b) (typesF h (joinN a b) (clsF a b)).1 0,true) else ([],false)
theorem jc_rep {h:HierD} {N:List GNode} {P:List (Int×Int)} {o:List Int} {ar:List (List (Int×Int))} {W:List (Int×Int)} (hj:JC h N P o ar W):RepC N.length o:=⟨hj.ci.lo,hj.ci.rep⟩
theorem quot_can {h:HierD} (hk:HOk h) (hn:NrmH h) (htop:HTop h) {N:List GNode} {P:List (Int×Int)} {c p:List Int} (hr:RC h N P c p (rowsQ N c (tyQ c p N.length) N.length)) (hf:Ft64 N) (hN:0 < N.length) :
  JI h N P c (tyQ c p N.length) (arQ (rowsQ N c (tyQ c p N.length) N.length)) []∧GoodF (quo c (tyQ c p N.length) (arQ (rowsQ N c (tyQ c p N.length) N.length)))∧quotF N c (tyQ c p N.length) 0=canonicalF (quo c (tyQ c p N.length) (arQ (rowsQ N c (tyQ c p N.length) N.length))) (rtF c 0):=by
 have h0:0 < h.1.length:=by
  have:=ty_at hr.ty hN
  omega
 have hj:=rc_ji hk hn htop h0 hr
 have hQ:=quo_good hj hr.good.1 hf
 have hs:=sortN_srt hr hf
 have hq:=rc_quo hr
 refine ⟨hj,hQ,?_⟩
 obtain ⟨r1,r2,r3⟩:=hr.rep.2 0 hN
 unfold quotF
 rw [← from_sortN hr.rows.nd]
 show fromF (sortN (rowsQ N c (tyQ c p N.length) N.length)) (c.getD 0 0)=_
 rw [from_canonical (by rw [hq];exact hQ) hs r1 (by rw [sortN_len,hr.rows.len];omega),hq,repC_rtF hr.rep (x:=0) (by omega) (by omega)]
 rfl
section
variable {h:HierD} {a b:List GNode}
theorem uni11_rep (va:VF h a) (vb:VF h b) (hab:a.length + b.length≤100):∃ ar,JC h (joinN a b) [(0,(a.length:Int))] (clsF a b) ar []:=by
 have hl:=joinN_len a b
 have:=va.pos
 have:=vb.pos
 exact close_law (joinN_good va.good vb.good (by omega)) (joinN_str va.str vb.str) (by omega) (by omega) (by omega) (by omega)
theorem uni11_eq (hu:HU h) (hn:NrmH h) (htop:HTop h) (va:VF h a) (vb:VF h b) (hab:a.length + b.length≤100):uni11F h a b=unifyF h a b:=by
 have hl:=joinN_len a b
 have pa:=va.pos
 have pb:=vb.pos
 have hg:=joinN_good va.good vb.good (by omega)
 have hs:=joinN_str va.str vb.str
 have ht:=joinN_ty va.ty vb.ty
 have hf:=joinN_ft (va.ft64 hu) (vb.ft64 hu)
 obtain ⟨ar,hj⟩:=uni11_rep va vb hab
 have hrep:=jc_rep hj
 have h0:0 < h.1.length:=by
  have:=ty_at ht (x:=0) (by omega)
  omega
 have e:typesF h (joinN a b) (clsF a b)=match typG h (joinN a b) (clsF a b) (joinN a b).length with
  | none=>([],false)
  | some o=>(tyQ (clsF a b) o (joinN a b).length,true):=rfl
 cases hp:typG h (joinN a b) (clsF a b) (joinN a b).length with
 | none =>
  rw [hp] at e
  have e2:uni11F h a b=([],false):=by unfold uni11F;rw [e];rfl
  rw [e2,unif_none va vb]
  intro X v hX hv
  obtain ⟨c1,_,_⟩:=hj.co X v hv
  obtain ⟨q,hq,_⟩:=typG_least (i:=(joinN a b).length) hu.ok hn h0 htop ht hrep (u:=fun k=>(X.getD (v (k:Int)).toNat (0,[])).1)
   (fun k hk=>by
    have:=hv.rng (k:Int) (by omega) (by omega)
    exact hX _ (mem_of_take_succ X (0,[]) (by omega)))
   (fun x hx=>by
    have h1:=hv.ty (x:Int) (by omega) (by omega)
    rw [Int.toNat_natCast] at h1
    have h2:=c1 (x:Int) (by omega) (by omega)
    rw [Int.toNat_natCast] at h2
    have h3:=hrep.2 x hx
    rw [show ((((clsF a b).getD x 0).toNat:Nat):Int)=(clsF a b).getD x 0 by omega,← h2]
    exact h1) (Nat.le_refl _)
  rw [hp] at hq
  cases hq
 | some p =>
  rw [hp] at e
  have hr:RC h (joinN a b) [(0,(a.length:Int))] (clsF a b) p (rowsQ (joinN a b) (clsF a b) (tyQ (clsF a b) p (joinN a b).length) (joinN a b).length):=⟨hg,ht,hrep,hp,rowsQ_law hrep (Nat.le_refl _),ar,hj⟩
  obtain ⟨h1,h2,h3⟩:=quot_can hu.ok hn htop hr hf (by omega)
  rw [unifyF_some hu (unif_of va vb h1 h2)]
  unfold uni11F
  rw [e]
  simp only [if_true]
  rw [h3]
end
end
/- Functions of grammarlabref11: Both. -/
section
theorem shiftA_len (k:Nat) (l:List (Int×Int)):(shiftA k l).length=l.length:=by simp [shiftA]
theorem shiftA_snoc {k:Nat} {l:List (Int×Int)} {j:Nat} (h:j < l.length):shiftA k (l.take (j + 1))=shiftA k (l.take j)++[((l.getD j (0,0)).1,(l.getD j (0,0)).2 + (k:Int))]:=by
 rw [take_snoc l (0,0) h]
 simp [shiftA]
theorem joinN_snoc {f g:List GNode} {j:Nat} (h:j < g.length):joinN f (g.take (j + 1))=joinN f (g.take j)++[((g.getD j (0,[])).1,shiftA f.length (g.getD j (0,[])).2)]:=by
 rw [take_snoc g (0,[]) h]
 simp [joinN]
def bothS:Spec:={ ins:=[T23,T23],pre:=fun (f,g,_)=>GoodF f∧GoodF g,out:=fun (f,g,_)=>[.p T23 (joinN f g)] }
attribute [local go_sem] bothS
theorem both_ok:FnOk Tryz.prog 63 bothS:=by
 refine fn_ok Tryz.func63 (by kernel_rfl) rfl Tryz.ntmps63 (by decide) (by kernel_rfl) (tyTab_ok []) fns_nil ?_
 rintro w0 O0 ⟨f,g,u⟩ hc - ⟨hf,hg⟩
 simp only [bothS,entEnv]
 have hf1:=hf.1
 have hg1:=hg.1
 repeat' (first | exact trivial | refine eS rfl ?_ | refine ev_out_inv ?_ | refine rX [0,1,4,5,6,7,8,15,31] hc ?_ ?_ | (refine rC (fun hcond=>?_) (fun hcond=>?_)<;>try (cases hcond;done)))
 ·simp only [maxN];exact eV
 ·have hj0:joinN f (List.take 0 g)=f:=by simp [joinN]
  have hjl:=fun i:Nat=>joinN_len f (List.take i g)
  refine ev_loop (ι:={i:Nat // i≤List.length g}) (fun i=>⟨[(0,.p T23 f),(1,.p T23 g),(5,.sr 9 T88 0 (joinN f (List.take i.1 g)).length),(6,.p (.int .i64) (i.1:Int))],[(9,.arr 88 T88 (joinN f (List.take i.1 g)))]⟩) (fun i=>List.length g - i.1) ⟨0,by omega⟩ (ent_match [(9,.nm 9)] rfl rfl ?_ ?_) (fun i=>?_)
  ·simp only
   rw [hj0]
   first | exact eN | refine eM ?_
  ·simp only
   rw [hj0]
   first | exact eN | refine eM ?_
  ·obtain ⟨i,hi⟩:=i
   simp only
   repeat' (first | exact trivial | refine eS rfl ?_ | refine ev_out_inv ?_ | refine rX [0,1,4,5,6,7,8,15,31] hc ?_ ?_ | (refine rC (fun hcond=>?_) (fun hcond=>?_)<;>try (cases hcond;done)))
   ·exact eV
   ·have hil:i < List.length g:=by exact eV
    have hm:=hg.2 _ (mem_of_take_succ (g:List GNode) (0,[]) hil)
    have hgn:=joinN_snoc (f:=f) hil
    refine ev_loop (ι:={k:Nat // k≤(List.getD g i (0,[])).2.length}) (fun k=>⟨[(0,.p T23 f),(1,.p T23 g),(5,.sr 9 T88 0 (joinN f (List.take i g)).length),(6,.p (.int .i64) (i:Int)),(7,.bp 7 [] 0),(8,.p (.int .i64) (k.1:Int))],[(9,.arr 88 T88 (joinN f (List.take i g))),(7,.box 88 true [.p T3 (List.getD g i (0,[])).1,.sr 59 T108 0 (shiftA (List.length f) ((List.getD g i (0,[])).2.take k.1)).length]),(59,.arr 108 T108 (shiftA (List.length f) ((List.getD g i (0,[])).2.take k.1)))]⟩) (fun k=>(List.getD g i (0,[])).2.length - k.1) ⟨0,by omega⟩ (ent_match [(9,.nm 9),(7,.nm 7),(59,.nil)] rfl rfl ?_ ?_) (fun k=>?_)
    ·first | exact eN | refine eM ?_
     exact ⟨rfl,rfl⟩
    ·first | exact eN | refine eM ?_
    ·obtain ⟨k,hk⟩:=k
     simp only
     repeat' (first | exact trivial | refine eS rfl ?_ | refine ev_out_inv ?_ | refine rX [0,1,4,5,6,7,8,15,31] hc ?_ ?_ | (refine rC (fun hcond=>?_) (fun hcond=>?_)<;>try (cases hcond;done)))
     ·exact hcond
     ·have hkl:k < (List.getD g i (0,[])).2.length:=by exact eV
      have ha:=hm.2 _ (mem_of_take_succ (List.getD g i (0,[])).2 (0,0) hkl)
      have h5:=List.length_take_le k (List.getD g i (0,[])).2
      have h6:=hm.1
      refine ⟨by assumption,hcond,by assumption,hcond,⟨by exact eV,by exact eV⟩,?_⟩
      rw [shiftA_len]
      simp only [maxN]
      dsimp only [Ty.den] at *
      omega
     ·exact eV
     ·have hkl:k < (List.getD g i (0,[])).2.length:=by exact eV
      refine ⟨⟨k + 1,by omega⟩,by simp only;omega,ent_match [(9,.nm 9),(7,.nm 7),(59,.nm 59)] rfl rfl ?_ ?_⟩
      ·simp only
       rw [shiftA_snoc hkl]
       first | exact eN | refine eM ?_
      ·simp only
       first | exact eN | refine eM ?_
     ·rw [hjl]
      have:=List.length_take_le i g
      simp only [maxN]
      dsimp only [Ty.den] at *
      omega
     ·exact eV
     ·have hkl:(List.getD g i (0,[])).2.take k=(List.getD g i (0,[])).2:=List.take_of_length_le (by exact eV)
      rw [hkl]
      refine ⟨⟨i + 1,by omega⟩,by simp only;omega,ent_match [(9,.nm 9)] rfl rfl ?_ ?_⟩
      ·simp only
       rw [hgn]
       first | exact eN | refine eM ?_
      ·simp only
       rw [hgn]
       first | exact eN | refine eM ?_
   ·have hil:List.take i g=g:=List.take_of_length_le (by exact eV)
    rw [hil]
    exact ev_fin hc [.tmp 4] rfl (.inl rfl) (by simp) (by first | exact eR | refine eRM ?_)
end
/- Functions of grammarlabref11: Unify, All. -/
section
attribute [local go_sem] bothS mer11S closeS typesS quotS
def apartPS:Spec:={ ins:=[T3],pre:=fun (n,_)=>(0:Int)≤n∧n≤(100000:Int),out:=fun (n,_)=>[.p T40 (apartF (Int.toNat n))] }
attribute [local go_sem] apartPS
theorem apartP_ok:FnOk Tryz.prog 66 apartPS:=by
 refine fn_ok Tryz.func66 (by kernel_rfl) rfl Tryz.ntmps66 (by decide) (by kernel_rfl) (tyTab_ok []) fns_nil ?_
 rintro w0 O0 ⟨n,u⟩ hc - ⟨h0,h1⟩
 simp only [apartPS,entEnv]
 repeat' (first | exact trivial | refine eS rfl ?_ | refine ev_out_inv ?_ | refine rX [0,2,3,4,7] hc ?_ ?_ | (refine rC (fun hcond=>?_) (fun hcond=>?_)<;>try (cases hcond;done)))
 refine ev_loop (ι:={i:Nat // i≤n.toNat}) (fun i=>⟨[(0,.p T3 n),(3,.sr 13 T3 0 i.1),(4,.p (.int .i64) (i.1:Int))],[(13,.arr 3 T3 (apartF i.1))]⟩) (fun i=>n.toNat - i.1) ⟨0,by omega⟩ (ent_match [(13,.nil)] rfl rfl ?_ ?_) (fun i=>?_)
 ·first | exact eN | refine eM ?_
  rfl
 ·first | exact eN | refine eM ?_
 ·obtain ⟨i,hi⟩:=i
  repeat' (first | exact trivial | refine eS rfl ?_ | refine ev_out_inv ?_ | refine rX [0,2,3,4,7] hc ?_ ?_ | (refine rC (fun hcond=>?_) (fun hcond=>?_)<;>try (cases hcond;done)))
  ·simp only [maxN];exact eV
  ·exact eV
  ·have hlen:(apartF i).take i=apartF i:=List.take_of_length_le (by rw [apartF_len];exact Nat.le_refl i)
   refine ⟨⟨i + 1,by exact eV⟩,by simp only;exact eV,ent_match [(13,.nm 13)] rfl rfl ?_ ?_⟩
   ·simp only
    rw [hlen,apartF_succ]
    first | exact eN | refine eM ?_
   ·first | exact eN | refine eM ?_
  ·have hn:i=n.toNat:=by exact eV
   have hlen:(apartF i).take i=apartF i:=List.take_of_length_le (by rw [apartF_len];exact Nat.le_refl i)
   subst hn
   exact ev_fin hc [.tmp 2] rfl (.inl rfl) (by simp) (by first | exact eR | refine eRM ?_;exact hlen)
noncomputable def uni11S:Spec:={ ins:=[T29,T25,T25],pre:=fun (h,a,b,_)=>HU h∧VF h a∧VF h b∧List.length a + List.length b≤100,out:=fun (h,a,b,_)=>[.p T25 (uni11F h a b).1,.p .bool (uni11F h a b).2] }
attribute [local go_sem] uni11S
theorem uni11_ok:FnOk Tryz.prog 19 uni11S:=by
 refine fn_ok Tryz.func19 (by kernel_rfl) rfl Tryz.ntmps19 (by decide) (by kernel_rfl) (tyTab_ok [(63,bothS),(66,apartPS),(65,mer11S),(64,closeS),(67,typesS),(68,quotS)]) (fns_cons both_ok (fns_cons apartP_ok (fns_cons mer11_ok (fns_cons close_ok (fns_cons types_ok (fns_cons quot_ok fns_nil)))))) ?_
 rintro w0 O0 ⟨⟨ht,hf⟩,a,b,u⟩ hc - ⟨hu,va,vb,hab⟩
 simp only [uni11S,entEnv]
 have hl:=joinN_len a b
 have pa:=va.pos
 have pb:=vb.pos
 have hg:=joinN_good va.good vb.good (by omega)
 have hty:=joinN_ty va.ty vb.ty
 have hft:=joinN_ft (va.ft64 hu) (vb.ft64 hu)
 have hst:=joinN_str va.str vb.str
 obtain ⟨ar,hj⟩:=uni11_rep va vb hab
 have hrep:=jc_rep hj
 have hml:=merge_len (apartF (joinN a b).length) 0 (a.length:Int)
 rw [apartF_len] at hml
 have h0:0 < List.length ht:=by
  have:=ty_at hty (x:=0) (by omega)
  have h2:(0:Int) < (List.length ht:Int):=by
   have:=this.2
   exact Int.lt_of_le_of_lt (ty_at hty (x:=0) (by omega)).1 this
  omega
 have hwd:∀ x∈(ht:List TypeD),x.2.1.length≤100000:=fun x hx=>Nat.le_trans (hu.ok.1.wid x.2.1 (List.mem_map.2 ⟨x,hx,rfl⟩)) (by omega)
 have hcr:∀ x∈clsF a b,0≤x∧x < ((joinN a b).length:Int):=fun x hx=>by
  obtain ⟨k,hk,rfl⟩:=List.mem_iff_getElem.1 hx
  have hr:=hrep.2 k (by rw [← hrep.1];exact hk)
  rw [List.getD_eq_getElem?_getD,List.getElem?_eq_getElem hk] at hr
  simp only [Option.getD_some] at hr
  have:=hrep.1
  omega
 have hmr:∀ x∈mergeF (apartF (joinN a b).length) 0 (a.length:Int),0≤x∧x < ((joinN a b).length:Int):=fun x hx=>by
  obtain ⟨hlh,hmg⟩:=apart_merge (n:=(joinN a b).length) (x:=0) (y:=(a.length:Int)) (by omega) (by omega) (by omega) (by omega)
  obtain ⟨k,hk,rfl⟩:=List.mem_iff_getElem.1 hx
  have:=hmg k (by omega)
  rw [List.getD_eq_getElem?_getD,List.getElem?_eq_getElem hk] at this
  simp only [Option.getD_some] at this
  rw [this]
  unfold oneF
  split
  ·rcases hlh with ⟨e,_⟩ | ⟨e,_⟩<;>rw [e]<;>omega
  ·omega
 have htl:(typesF (ht,hf) (joinN a b) (clsF a b)).2=true→(typesF (ht,hf) (joinN a b) (clsF a b)).1.length=(joinN a b).length:=fun h=>by
  unfold typesF at h ⊢
  cases hp:typG (ht,hf) (joinN a b) (clsF a b) (joinN a b).length with
  | none=>rw [hp] at h;cases h
  | some p=>simp
 have hu1:uni11F (ht,hf) a b=if (typesF (ht,hf) (joinN a b) (clsF a b)).2=true then (quotF (joinN a b) (clsF a b) (typesF (ht,hf) (joinN a b) (clsF a b)).1 0,true) else ([],false):=rfl
 have hcl:closeF (joinN a b) (mergeF (apartF (joinN a b).length) 0 (a.length:Int))=clsF a b:=rfl
 repeat' (first | exact trivial | refine eS rfl ?_ | refine ev_out_inv ?_ | refine rX [0,1,2,3,4,5,6,7,8,9,10,11,34] hc ?_ ?_ | (refine rC (fun hcond=>?_) (fun hcond=>?_)<;>try (cases hcond;done)))
 ·exact ⟨va.good,vb.good⟩
 ·rw [apartF_len]
  refine ⟨by exact eV,⟨by exact eV,by exact eV,by exact eV⟩,hg,hml,hmr⟩
 ·rw [hcl]
  exact ⟨hrep,hty,h0,by exact eV,hwd⟩
 ·rw [hcl] at hcond
  rw [if_neg (by rw [hcond];simp)] at hu1
  exact ev_fin hc [.cell 6 25,.tmp 7] rfl (.inl rfl) (by simp) (by rw [hu1];first | exact eR | refine eRM ?_)
 ·rw [hcl] at hcond ⊢
  refine ⟨hg,hrep.1,htl hcond,hcr,by exact eV,by exact eV,fun x hx=>Nat.le_trans (str_64 (hst x hx) (hft x hx)) (by omega)⟩
 ·rw [hcl] at hcond ⊢
  rw [if_pos hcond] at hu1
  exact ev_fin hc [.cell 6 25,.tmp 7] rfl (.inl rfl) (by simp) (by rw [hu1];first | exact eR | refine eRM ?_)
end
/- Plain: a path as a tree; the most general structure with one value at two paths. -/
section
def chainF (p:List Int) (n:Nat):List GNode:=(List.range n).map fun (i:Nat)=>((0:Int),[(p.getD i 0,(i:Int) + 1)])
def underF (p:List Int) (g:List GNode):List GNode:=chainF p p.length++g.map fun x=>(x.1,shiftA p.length x.2)
abbrev pathF (p:List Int):List GNode:=underF p [((0:Int),[])]
theorem chainF_succ (p:List Int) (n:Nat):chainF p (n + 1)=chainF p n++[((0:Int),[(p.getD n 0,(n:Int) + 1)])]:=by simp [chainF,List.range_succ]
theorem chainF_len (p:List Int) (n:Nat):(chainF p n).length=n:=by simp [chainF]
theorem pathF_len (p:List Int):(pathF p).length=p.length + 1:=by simp [underF,chainF]
theorem pathF_at (p:List Int) {i:Int} (i0:0≤i) (i1:i < (p.length:Int)):(pathF p).getD i.toNat (0,[])=(0,[(p.getD i.toNat 0,i + 1)]):=by
 unfold pathF underF
 rw [List.getD_eq_getElem?_getD,List.getElem?_append_left (by rw [chainF_len];omega)]
 unfold chainF
 rw [List.getElem?_map,List.getElem?_range (by omega)]
 show ((0:Int),[(p.getD i.toNat 0,((i.toNat:Nat):Int) + 1)])=_
 rw [Int.toNat_of_nonneg i0]
theorem pathF_last (p:List Int):(pathF p).getD p.length (0,[])=(0,[]):=by
 unfold pathF underF
 rw [List.getD_eq_getElem?_getD,List.getElem?_append_right (by rw [chainF_len];omega),chainF_len,Nat.sub_self]
 rfl
theorem pathF_node (p:List Int) {i:Int} (i0:0≤i) (i1:i < ((pathF p).length:Int)):(i < (p.length:Int)∧(pathF p).getD i.toNat (0,[])=(0,[(p.getD i.toNat 0,i + 1)]))∨(i=(p.length:Int)∧(pathF p).getD i.toNat (0,[])=(0,[])):=by
 rw [pathF_len] at i1
 by_cases h:i < (p.length:Int)
 ·exact .inl ⟨h,pathF_at p i0 h⟩
 ·have e:i=(p.length:Int):=by omega
  subst e
  right
  rw [Int.toNat_natCast]
  exact ⟨rfl,pathF_last p⟩
theorem pathF_mem (p:List Int) {x:GNode} (hx:x∈pathF p):x=(0,[])∨∃ i,i < p.length∧x=(0,[(p.getD i 0,(i:Int) + 1)]):=by
 obtain ⟨i,hi,rfl⟩:=mem_getD (0,[]) hx
 rcases pathF_node p (i:=(i:Int)) (by omega) (by omega) with ⟨h1,h2⟩ | ⟨h1,h2⟩
 ·rw [Int.toNat_natCast] at h2
  exact .inr ⟨i,by omega,h2⟩
 ·rw [Int.toNat_natCast] at h2
  exact .inl h2
def FtP (h:HierD) (p:List Int):Prop:=∀ e∈p,0≤e∧e < (h.2.length:Int)
theorem pathF_ft {h:HierD} {p:List Int} (hp:FtP h p):∀ x∈pathF p,∀ a∈x.2,0≤a.1∧a.1 < (h.2.length:Int):=by
 intro x hx a ha
 rcases pathF_mem p hx with rfl | ⟨i,hi,rfl⟩
 ·cases ha
 ·have:a=(p.getD i 0,(i:Int) + 1):=by simpa using ha
  rw [this]
  exact hp _ (getD_mem hi)
theorem pathF_good {p:List Int} (hp:p.length≤1000):GoodF (pathF p):=by
 have hl:=pathF_len p
 refine ⟨by omega,fun x hx=>?_⟩
 rcases pathF_mem p hx with rfl | ⟨i,hi,rfl⟩
 ·exact ⟨by simp,fun a ha=>by cases ha⟩
 ·refine ⟨by simp,fun a ha=>?_⟩
  have:a=(p.getD i 0,(i:Int) + 1):=by simpa using ha
  rw [this,hl]
  simp only
  omega
theorem pathF_str (p:List Int):∀ x∈pathF p,Str x.2:=by
 intro x hx
 rcases pathF_mem p hx with rfl | ⟨i,hi,rfl⟩
 ·exact .nil
 ·exact List.pairwise_singleton _ _
theorem pathF_ty {h:HierD} (h0:0 < h.1.length) (p:List Int):TyOk h (pathF p):=by
 intro x hx
 rcases pathF_mem p hx with rfl | ⟨i,hi,rfl⟩
 ·exact ⟨by simp,by simp only;omega⟩
 ·exact ⟨by simp,by simp only;omega⟩
theorem pathF_ro (p:List Int):RO (pathF p):=by
 intro i i0 i1
 rw [pathF_len] at i1
 refine ⟨i - 1,by omega,by omega,(p.getD (i - 1).toNat 0,i - 1 + 1),?_,by simp only;omega⟩
 rw [arcsAt,pathF_at p (by omega) (by omega)]
 exact List.mem_singleton.2 rfl
theorem toF_of {l:List (Int×Int)} (h:Str l) {e:Int} (he:0≤tgtF l e):toF l e=tgtF l e:=by
 obtain ⟨a,ha,e1,e2⟩:=tgtF_mem he
 rw [← e1,toF_arc h ha,tgtF_arc h ha]
theorem walk_rng {f:List GNode} (hf:GoodF f) (h0:0 < f.length) (p:List Int):∀ n,walkF f 0 p=some n→0≤n∧n < (f.length:Int):=by
 induction p using list_snoc_ind with
 | h0 =>
  intro n h
  simp only [walkF,Option.some.injEq] at h
  omega
 | h1 p e ih =>
  intro n h
  obtain ⟨x,hx,a,ha,e1,e2⟩:=walk_last h
  rw [← e2]
  exact arcs_in' hf ha
theorem walk_pre {f:List GNode} {p:List Int} {n:Int} (h:walkF f 0 p=some n) (k:Nat):∃ m,walkF f 0 (p.take k)=some m:=by
 cases hh:walkF f 0 (p.take k) with
 | none =>
  have:=walk_none (p.take k) 0 (p.drop k) hh
  rw [List.take_append_drop,h] at this
  cases this
 | some m=>exact ⟨m,rfl⟩
theorem path_hom {h:HierD} (ht:HTop h) {X:List GNode} (hX:GoodF X) (x0:0 < X.length) (tX:TyOk h X) (sX:∀ x∈X,Str x.2) {p:List Int} {n:Int} (hw:walkF X 0 p=some n):∃ m,Hom h (pathF p) X m∧m (p.length:Int)=n:=by
 have hw1:∀ k,walkF X 0 (p.take k)=some ((walkF X 0 (p.take k)).getD 0):=fun k=>by
  obtain ⟨m,hm⟩:=walk_pre hw k
  rw [hm]
  rfl
 have hr:=fun k=>walk_rng hX x0 (p.take k) _ (hw1 k)
 refine ⟨fun i=>(walkF X 0 (p.take i.toNat)).getD 0,⟨rfl,fun i i0 i1=>hr i.toNat,fun i i0 i1=>?_,fun i i0 i1 a ha=>?_⟩,?_⟩
 ·have e:((pathF p).getD i.toNat (0,[])).1=0:=by
   rcases pathF_node p i0 i1 with ⟨-,h2⟩ | ⟨-,h2⟩<;>rw [h2]
  rw [e]
  have hq:=hr i.toNat
  have:=tX _ (mem_of_take_succ X (0,[]) (k:=((walkF X 0 (p.take i.toNat)).getD 0).toNat) (by omega))
  exact ht _ this.1 this.2
 ·rcases pathF_node p i0 i1 with ⟨h1,h2⟩ | ⟨-,h2⟩
  ·rw [arcsAt,h2] at ha
   have e:a=(p.getD i.toNat 0,i + 1):=by simpa using ha
   subst e
   have hs:=take_snoc p 0 (k:=i.toNat) (by omega)
   have hw2:=hw1 (i.toNat + 1)
   rw [hs] at hw2
   obtain ⟨x,hx,b,hb,e1,e2⟩:=walk_last hw2
   have hx2:=hw1 i.toNat
   rw [hx] at hx2
   have hx3:x=(walkF X 0 (p.take i.toNat)).getD 0:=by rw [hx];rfl
   show tgtF (arcsAt X ((walkF X 0 (p.take i.toNat)).getD 0)) (p.getD i.toNat 0)=(walkF X 0 (p.take (i + 1).toNat)).getD 0
   rw [← hx3,show (i + 1).toNat=i.toNat + 1 by omega,hs,← e2,← e1]
   exact tgtF_arc (str_at sX x) hb
  ·rw [arcsAt,h2] at ha
   cases ha
 ·show (walkF X 0 (p.take ((p.length:Nat):Int).toNat)).getD 0=n
  rw [Int.toNat_natCast,List.take_length,hw]
  rfl
theorem hom_path {h:HierD} {X:List GNode} (hX:GoodF X) (x0:0 < X.length) (sX:∀ x∈X,Str x.2) {p:List Int} {m:Int→Int} (hm:Hom h (pathF p) X m):walkF X 0 p=some (m (p.length:Int)):=by
 have key:∀ k,k≤p.length→walkF X 0 (p.take k)=some (m (k:Int)):=by
  intro k
  induction k with
  | zero =>
   intro _
   rw [List.take_zero]
   show some (0:Int)=some (m 0)
   rw [hm.zero]
  | succ k ih =>
   intro hk
   have hi:=ih (by omega)
   have hn:=pathF_at p (i:=(k:Int)) (by omega) (by omega)
   have hl:=pathF_len p
   have ha:=hm.arc (k:Int) (by omega) (by omega) (p.getD k 0,(k:Int) + 1) (by
    rw [arcsAt,hn,Int.toNat_natCast]
    exact List.mem_singleton.2 rfl)
   have hr:=hm.rng ((k:Int) + 1) (by omega) (by omega)
   rw [take_snoc p 0 (by omega),walkF_snoc X _ 0 _ _ hi]
   simp only at ha
   rw [toF_of (str_at sX _) (by rw [ha];exact hr.1),ha,if_neg (by omega)]
   rfl
 have:=key p.length (Nat.le_refl _)
 rwa [List.take_length] at this
structure EqOk (h:HierD) (f:List GNode) (p q:List Int) (U:List GNode):Prop where
 vf:VF h U
 left:∃ m,Hom h f U m
 eq:∃ n,walkF U 0 p=some n∧walkF U 0 q=some n
 least:∀ X,VF h X→∀ m1,Hom h f X m1→∀ n,walkF X 0 p=some n→walkF X 0 q=some n→∃ m,Hom h U X m
 len:U.length≤f.length + p.length + q.length + 2
theorem eqOk_eq {h:HierD} (hu:HU h) {f U V:List GNode} {p q:List Int} (h1:EqOk h f p q U) (h2:EqOk h f p q V):U=V:=by
 obtain ⟨m1,g1⟩:=h2.left
 obtain ⟨n1,a1,b1⟩:=h2.eq
 obtain ⟨m3,g3⟩:=h1.left
 obtain ⟨n2,a2,b2⟩:=h1.eq
 obtain ⟨m,hm⟩:=h1.least V h2.vf m1 g1 n1 a1 b1
 obtain ⟨m',hm'⟩:=h2.least U h1.vf m3 g3 n2 a2 b2
 exact vf_eq hu h1.vf h2.vf hm hm'
open Classical in
noncomputable def eqtF (h:HierD) (f:List GNode) (p q:List Int):List GNode×Bool:=if H:∃ U,EqOk h f p q U then (H.choose,true) else ([],false)
theorem eqtF_some {h:HierD} (hu:HU h) {f U:List GNode} {p q:List Int} (h1:EqOk h f p q U):eqtF h f p q=(U,true):=by
 unfold eqtF
 have H:∃ U,EqOk h f p q U:=⟨U,h1⟩
 rw [dif_pos H,eqOk_eq hu H.choose_spec h1]
theorem eqtF_none {h:HierD} {f:List GNode} {p q:List Int} (h1:∀ X,VF h X→∀ m1,Hom h f X m1→∀ n,walkF X 0 p=some n→walkF X 0 q≠some n):eqtF h f p q=([],false):=by
 unfold eqtF
 rw [dif_neg]
 rintro ⟨U,hU⟩
 obtain ⟨m1,g1⟩:=hU.left
 obtain ⟨n,a,b⟩:=hU.eq
 exact h1 U hU.vf m1 g1 n a b
abbrev eqN (f:List GNode) (p q:List Int):List GNode:=joinN (joinN f (pathF p)) (pathF q)
abbrev eqP (f:List GNode) (p q:List Int):List (Int×Int):=[(0,(f.length:Int)),((f.length:Int),((f.length + (p.length + 1):Nat):Int)),(((f.length + p.length:Nat):Int),((f.length + (p.length + 1) + q.length:Nat):Int))]
theorem eqN_len (f:List GNode) (p q:List Int):(eqN f p q).length=f.length + (p.length + 1) + (q.length + 1):=by
 rw [joinN_len,joinN_len,pathF_len,pathF_len]
theorem eqt_xok {h:HierD} (ht:HTop h) {f:List GNode} {p q:List Int} (hf:VF h f) (hp:p.length≤1000) (hq:q.length≤1000) (hl:f.length≤10000) {X:List GNode} (hX:VF h X) {m1:Int→Int} (h1:Hom h f X m1) {n:Int} (hn1:walkF X 0 p=some n) (hn2:walkF X 0 q=some n):∃ v,XOk h (eqN f p q) (eqP f p q) X v∧v 0=0:=by
 obtain ⟨a,ha,ea⟩:=path_hom ht hX.good hX.pos hX.ty hX.str hn1
 obtain ⟨b,hb,eb⟩:=path_hom ht hX.good hX.pos hX.ty hX.str hn2
 have hpf:=hf.pos
 have j1:=joinN_len f (pathF p)
 rw [pathF_len] at j1
 have hg:=joinN_good hf.good (pathF_good hp) (by rw [pathF_len];omega)
 refine ⟨_,xok_eq (xok_join hg (pathF_good hq) (xok_join hf.good (pathF_good hp) (hom_xok h1) (hom_xok ha)) (hom_xok hb)) fun r hr=>?_,?_⟩
 ·simp only [List.mem_cons,List.not_mem_nil,or_false] at hr
  rcases hr with rfl | rfl | rfl
  ·simp only
   rw [j1,if_pos (by omega),if_pos (by omega),if_pos (by omega),if_neg (by omega),Int.sub_self,h1.zero,ha.zero]
  ·simp only
   rw [j1,if_pos (by omega),if_neg (by omega),if_neg (by omega),Int.sub_self,ha.zero,show ((f.length + (p.length + 1):Nat):Int) - ((f.length + (p.length + 1):Nat):Int)=0 by omega,hb.zero]
  ·simp only
   rw [j1,if_pos (by omega),if_neg (by omega),if_neg (by omega),show ((f.length + p.length:Nat):Int) - (f.length:Int)=(p.length:Int) by omega,ea,show ((f.length + (p.length + 1) + q.length:Nat):Int) - ((f.length + (p.length + 1):Nat):Int)=(q.length:Int) by omega,eb]
 ·show (if (0:Int) < ((joinN f (pathF p)).length:Int) then (if (0:Int) < (f.length:Int) then m1 0 else a (0 - (f.length:Int))) else b (0 - ((joinN f (pathF p)).length:Int)))=0
  rw [j1,if_pos (by omega),if_pos (by omega)]
  exact h1.zero
theorem eqt_of {h:HierD} (ht:HTop h) {f:List GNode} {p q:List Int} (hf:VF h f) (fp:FtP h p) (fq:FtP h q) (hp:p.length≤1000) (hq:q.length≤1000) (hl:f.length≤10000) {P ty:List Int} {ar:List (List (Int×Int))} (hj:JI h (eqN f p q) (eqP f p q) P ty ar []) (hQ:GoodF (quo P ty ar)):EqOk h f p q (canonicalF (quo P ty ar) (rtF P 0)):=by
 have hpf:=hf.pos
 have j1:=joinN_len f (pathF p)
 rw [pathF_len] at j1
 have j2:=eqN_len f p q
 have hN:0 < (eqN f p q).length:=by omega
 have h0:=reach_zero hj hQ hN
 have c1:Comp (eqN f p q) 0 f:=comp_left (comp_left comp_self)
 have c2:Comp (eqN f p q) f.length (pathF p):=comp_left comp_right
 have c3:Comp (eqN f p q) (f.length + (p.length + 1)) (pathF q):=by
  have:=comp_right (f:=joinN f (pathF p)) (g:=pathF q)
  rw [j1] at this
  exact this
 have r1:=reach_comp hj hQ hN c1 hf.ro h0
 have e1:rtF P (f.length:Int)∈ordQ P ty ar:=reach_eq hj (x:=0) (by simp) h0
 have r2:=reach_comp hj hQ hN c2 (pathF_ro p) e1
 have e2:rtF P ((f.length + (p.length + 1):Nat):Int)∈ordQ P ty ar:=reach_eq hj (x:=(f.length:Int)) (by simp) e1
 have r3:=reach_comp hj hQ hN c3 (pathF_ro q) e2
 have hU:=gen_ok hj hQ hN fun x x0 x1=>by
  by_cases hx:x < (f.length:Int)
  ·have:=r1 x.toNat x (Nat.le_refl _) x0 hx
   rwa [show ((0:Nat):Int) + x=x by omega] at this
  ·by_cases hx2:x < ((f.length + (p.length + 1):Nat):Int)
   ·have:=r2 _ (x - (f.length:Int)) (Nat.le_refl _) (by omega) (by rw [pathF_len];omega)
    rwa [show (f.length:Int) + (x - (f.length:Int))=x by omega] at this
   ·have:=r3 _ (x - ((f.length + (p.length + 1):Nat):Int)) (Nat.le_refl _) (by omega) (by rw [pathF_len];omega)
    rwa [show ((f.length + (p.length + 1):Nat):Int) + (x - ((f.length + (p.length + 1):Nat):Int))=x by omega] at this
 generalize hv:(fun x=>idxZ (ordQ P ty ar) (rtF P x))=v at hU
 have hft:∀ x∈eqN f p q,∀ a∈x.2,0≤a.1∧a.1 < (h.2.length:Int):=by
  have key:∀ {g k:List GNode},(∀ x∈g,∀ a∈x.2,0≤a.1∧a.1 < (h.2.length:Int))→(∀ x∈k,∀ a∈x.2,0≤a.1∧a.1 < (h.2.length:Int))→∀ x∈joinN g k,∀ a∈x.2,0≤a.1∧a.1 < (h.2.length:Int):=by
   intro g k hg hk x hx
   unfold joinN at hx
   rcases List.mem_append.1 hx with hx | hx
   ·exact hg x hx
   ·obtain ⟨y,hy,rfl⟩:=List.mem_map.1 hx
    intro a ha
    obtain ⟨b,hb,rfl⟩:=List.mem_map.1 ha
    exact hk y hy b hb
  exact key (key hf.ft (pathF_ft fp)) (pathF_ft fq)
 have hvf:=gen_vf hj hQ hN hft hU
 have z1:v (f.length:Int)=0:=by rw [← hU.proj.eq (0,(f.length:Int)) (by simp)];exact hU.zero
 have z2:v ((f.length + (p.length + 1):Nat):Int)=0:=by rw [← hU.proj.eq ((f.length:Int),((f.length + (p.length + 1):Nat):Int)) (by simp)];exact z1
 have z3:v ((f.length + p.length:Nat):Int)=v ((f.length + (p.length + 1) + q.length:Nat):Int):=hU.proj.eq (((f.length + p.length:Nat):Int),((f.length + (p.length + 1) + q.length:Nat):Int)) (by simp)
 refine ⟨hvf,⟨_,comp_hom hU.proj c1 hU.zero⟩,⟨v ((f.length + p.length:Nat):Int),?_,?_⟩,fun X hX m1 h1 n hn1 hn2=>?_,by have:=hU.len;omega⟩
 ·have:=hom_path hvf.good hvf.pos hvf.str (comp_hom hU.proj c2 z1)
  rw [this]
  congr 2
 ·have:=hom_path hvf.good hvf.pos hvf.str (comp_hom hU.proj c3 z2)
  rw [this,z3]
  congr 2
 ·obtain ⟨w,hw,hw0⟩:=eqt_xok ht hf hp hq hl hX h1 hn1 hn2
  exact hU.least X w hX.ty hw hw0
end
/- Functions of grammarlabref07: Check. -/
section
attribute [local go_sem] canonS equalS
def ftR (h:HierD) (a:Int×Int):Bool:=decide (a.1 < (h.2.length:Int))
def ndR (h:HierD) (x:GNode):Bool:=decide (x.1 < (h.1.length:Int)) && x.2.all (ftR h)
def check7F (h:HierD) (f:List GNode):Int:=if (canonF f).2≠0 then (canonF f).2 else if f.all (ndR h)=false then 2 else if (compareF f (canonF f).1 == 0)=false then 3 else 0
def check7S:Spec:={ ins:=[T29,T25],pre:=fun (_,f,_)=>SmallF f,out:=fun (h,f,_)=>[.p T79 (check7F h f)] }
theorem check7_ok:FnOk Tryz.prog 55 check7S:=by
 refine fn_ok Tryz.func55 (by kernel_rfl) rfl Tryz.ntmps55 (by decide) (by kernel_rfl) (tyTab_ok [(73,canonS),(20,equalS)]) (fns_cons canon_ok (fns_cons equal_ok fns_nil)) ?_
 rintro w0 O0 ⟨⟨ht,hf⟩,f,u⟩ hc - hs
 have hs:SmallF f:=hs
 simp only [check7S,entEnv]
 repeat' (first | exact trivial | refine eS rfl ?_ | refine ev_out_inv ?_ | refine rX [0,1,2,3,4,5,6,7,8,9,16,22,35,40,52,56] hc ?_ ?_ | (refine rC (fun hcond=>?_) (fun hcond=>?_)<;>try (cases hcond;done)))
 ·exact hs.2
 ·have h1:check7F (ht,hf) f=(canonF f).2:=by unfold check7F;rw [if_pos hcond]
  exact ev_fin hc [.tmp 4] rfl (.inl rfl) (by simp) (by rw [h1];first | exact eR | refine eRM ?_)
 ·have hz:(canonF f).2=0:=by simpa using hcond
  have hsc:=small_canon hs.2
  have hfl:=hs.1
  have hr:check7F (ht,hf) f=if f.all (ndR (ht,hf))=false then 2 else if (compareF f (canonF f).1 == 0)=false then 3 else 0:=by unfold check7F;rw [if_neg (by rw [hz];simp)]
  refine ev_loop (ι:={i:Nat // i≤f.length∧(f.take i).all (ndR (ht,hf))=true}) (fun i=>⟨[(2,.bp 2 [] 0),(3,.bp 3 [] 0),(5,.bp 5 [] 0),(7,.p (.int .i64) (i.1:Int))],[(2,.box 29 true [.p T26 ht,.p T27 hf]),(3,.box 25 true [.p T23 f]),(5,.box 25 true [.p T23 (canonF f).1])]⟩) (fun i=>f.length - i.1) ⟨0,by simp⟩ (ent_match [(2,.nm 2),(3,.nm 3),(5,.nm 5)] rfl rfl ?_ ?_) (fun i=>?_)
  ·first | exact eN | refine eM ?_
  ·first | exact eN | refine eM ?_
  ·obtain ⟨i,hi,hall⟩:=i
   have hsn:=fun h:i < f.length=>all_take1 f (0,[]) (ndR (ht,hf)) h
   simp only
   repeat' (first | exact trivial | refine eS rfl ?_ | refine ev_out_inv ?_ | refine rX [0,1,2,3,4,5,6,7,8,9,16,22,35,40,52,56] hc ?_ ?_ | (refine rC (fun hcond=>?_) (fun hcond=>?_)<;>try (cases hcond;done)))
   ·exact hcond
   ·have hif:i < f.length:=Int.ofNat_lt.1 (by assumption)
    have e:f.all (ndR (ht,hf))=false:=by
     rw [List.all_eq_false]
     refine ⟨_,mem_of_take_succ f (0,[]) hif,?_⟩
     unfold ndR
     rw [decide_eq_false (Int.not_lt.2 hcond)]
     simp
    rw [if_pos e] at hr
    exact ev_fin hc [.tmp 4] rfl (.inl rfl) (by simp) (by rw [hr];first | exact eR | refine eRM ?_)
   ·have hif:i < f.length:=Int.ofNat_lt.1 (by assumption)
    have hm:=mem_of_take_succ f (0,[]) hif
    have hnd:ndR (ht,hf) (f.getD i (0,[]))=(f.getD i (0,[])).2.all (ftR (ht,hf)):=by
     unfold ndR
     rw [decide_eq_true (show (f.getD i (0,[])).1 < (ht.length:Int) from hcond)]
     rfl
    have hal:(f.getD i (0,[])).2.length≤100000:=hs.2 _ hm
    refine ev_loop (ι:={k:Nat // k≤(f.getD i (0,[])).2.length∧((f.getD i (0,[])).2.take k).all (ftR (ht,hf))=true}) (fun k=>⟨[(2,.bp 2 [] 0),(3,.bp 3 [] 0),(5,.bp 5 [] 0),(7,.p (.int .i64) (i:Int)),(8,.bp 8 [] 0),(9,.p (.int .i64) (k.1:Int))],[(2,.box 29 true [.p T26 ht,.p T27 hf]),(3,.box 25 true [.p T23 f]),(5,.box 25 true [.p T23 (canonF f).1]),(8,.box 88 true [.p T3 (f.getD i (0,[])).1,.p T86 (f.getD i (0,[])).2])]⟩) (fun k=>(f.getD i (0,[])).2.length - k.1) ⟨0,by simp⟩ (ent_match [(2,.nm 2),(3,.nm 3),(5,.nm 5),(8,.nm 8)] rfl rfl ?_ ?_) (fun k=>?_)
    ·first | exact eN | refine eM ?_
    ·first | exact eN | refine eM ?_
    ·obtain ⟨k,hk,hall2⟩:=k
     have hsn2:=fun h:k < (f.getD i (0,[])).2.length=>all_take1 (f.getD i (0,[])).2 (0,0) (ftR (ht,hf)) h
     simp only
     repeat' (first | exact trivial | refine eS rfl ?_ | refine ev_out_inv ?_ | refine rX [0,1,2,3,4,5,6,7,8,9,16,22,35,40,52,56] hc ?_ ?_ | (refine rC (fun hcond=>?_) (fun hcond=>?_)<;>try (cases hcond;done)))
     ·exact hcond
     ·have hkL:k < (f.getD i (0,[])).2.length:=Int.ofNat_lt.1 (by assumption)
      have e:f.all (ndR (ht,hf))=false:=by
       rw [List.all_eq_false]
       refine ⟨_,hm,?_⟩
       rw [hnd,List.all_eq_false.2 ⟨_,mem_of_take_succ (f.getD i (0,[])).2 (0,0) hkL,by unfold ftR;rw [decide_eq_false (Int.not_lt.2 hcond)];simp⟩]
       simp
      rw [if_pos e] at hr
      exact ev_fin hc [.tmp 4] rfl (.inl rfl) (by simp) (by rw [hr];first | exact eR | refine eRM ?_)
     ·exact eV
     ·have hkL:k < (f.getD i (0,[])).2.length:=Int.ofNat_lt.1 (by assumption)
      refine ⟨⟨k + 1,hkL,?_⟩,by simp only;omega,ent_match [(2,.nm 2),(3,.nm 3),(5,.nm 5),(8,.nm 8)] rfl rfl ?_ ?_⟩
      ·rw [hsn2 hkL,hall2]
       unfold ftR
       exact decide_eq_true hcond
      ·first | exact eN | refine eM ?_
      ·first | exact eN | refine eM ?_
     ·exact eV
     ·have hkL:(f.getD i (0,[])).2.take k=(f.getD i (0,[])).2:=List.take_of_length_le (Int.ofNat_le.1 hcond)
      rw [hkL] at hall2
      refine ⟨⟨i + 1,hif,?_⟩,by simp only;omega,ent_match [(2,.nm 2),(3,.nm 3),(5,.nm 5)] rfl rfl ?_ ?_⟩
      ·rw [hsn hif,hall,hnd,hall2]
       rfl
      ·first | exact eN | refine eM ?_
      ·first | exact eN | refine eM ?_
   ·exact ⟨hs,hsc⟩
   ·have hif:f.take i=f:=List.take_of_length_le (Int.ofNat_le.1 (by assumption))
    rw [hif] at hall
    rw [if_neg (by rw [hall];simp),if_pos (by simpa using hcond)] at hr
    exact ev_fin hc [.tmp 4] rfl (.inl rfl) (by simp) (by rw [hr];first | exact eR | refine eRM ?_)
   ·have hif:f.take i=f:=List.take_of_length_le (Int.ofNat_le.1 (by assumption))
    rw [hif] at hall
    rw [if_neg (by rw [hall];simp),if_neg (by rw [hcond];simp)] at hr
    exact ev_fin hc [.tmp 4] rfl (.inl rfl) (by simp) (by rw [hr];first | exact eR | refine eRM ?_)
def validB (h:HierD) (f:List GNode):Bool:=lightF f && check7F h f == 0
end
/- Plain: what is valid for a hierarchy is canonical. -/
section
theorem compile_bounds (d:List DeclD):(compileF d).1.1.length≤256∧(compileF d).1.2.length≤64:=by
 unfold compileF
 split
 ·exact ⟨by simp,by simp⟩
 ·rename_i hv
  have hv:(valuesF d).2=0:=Classical.byContradiction hv
  have h5:check5F d=0:=by
   unfold valuesF at hv
   split at hv
   ·rename_i h;exact absurd hv h
   ·rename_i h;exact Classical.byContradiction h
  obtain ⟨hz,hf64,-⟩:=check5_zero h5
  obtain ⟨-,hlen,-⟩:=codesF_zero hz
  refine ⟨?_,?_⟩
  ·show (typeG _ _ _).length≤256
   rw [typeG_len,codesR_len]
   exact hlen
  ·show (featuresF d).1.length≤64
   unfold featuresF
   rw [if_neg (by rw [h5];simp)]
   show ((featsF d).map (featD d)).length≤64
   rw [List.length_map]
   exact hf64
theorem valid_goodH {H:HierD} (hb1:H.1.length≤256) (hb2:H.2.length≤64) {f:List GNode} (h:validB H f=true):GoodF f∧SrtF f∧0 < f.length∧TyOk H f∧canonicalB f=true∧f.length≤12∧∀ x∈f,∀ a∈x.2,0≤a.1∧a.1 < (H.2.length:Int):=by
 unfold validB at h
 rw [Bool.and_eq_true,beq_iff_eq] at h
 obtain ⟨hl,hc⟩:=h
 unfold check7F at hc
 split at hc
 ·rename_i h1;exact absurd hc h1
 ·rename_i h1
  split at hc
  ·cases hc
  ·rename_i h2
   split at hc
   ·cases hc
   ·rename_i h3
    have h1:(canonF f).2=0:=Classical.byContradiction h1
    have h2:f.all (ndR H)=true:=by simpa using h2
    have h3:compareF f (canonF f).1=0:=by simpa using h3
    have hcan:canonicalB f=true:=by
     unfold canonicalB
     simp only [Bool.and_eq_true,beq_iff_eq]
     refine ⟨⟨hl,?_⟩,h1,?_⟩
     ·rw [List.all_eq_true] at h2 ⊢
      intro x hx
      have:=h2 x hx
      unfold ndR at this
      rw [Bool.and_eq_true,decide_eq_true_eq,List.all_eq_true] at this
      unfold ndB
      rw [Bool.and_eq_true,decide_eq_true_eq,List.all_eq_true]
      refine ⟨by omega,fun a ha=>?_⟩
      have:=this.2 a ha
      unfold ftR at this
      rw [decide_eq_true_eq] at this
      unfold ftB
      rw [decide_eq_true_eq]
      omega
     ·rw [← compareF_eq h3]
      exact compareF_self f
    obtain ⟨g1,g2,g3,-⟩:=canonical_good hcan
    have hz:formF f=0:=by
     unfold canonF at h1
     split at h1
     ·rename_i hh;exact hh
     ·exact h1
    have hzg:formG (f.length:Int) f=0:=by
     unfold formF at hz
     split at hz
     ·cases hz
     ·split at hz
      ·cases hz
      ·exact hz
    refine ⟨g1,g2,g3,fun x hx=>?_,hcan,(light_small hl).1,fun x hx a ha=>?_⟩
    ·have h5:=List.all_eq_true.1 h2 x hx
     unfold ndR at h5
     rw [Bool.and_eq_true,decide_eq_true_eq] at h5
     exact ⟨(formG_zero hzg x hx).1,h5.1⟩
    ·have h5:=List.all_eq_true.1 h2 x hx
     unfold ndR at h5
     rw [Bool.and_eq_true,List.all_eq_true] at h5
     have h6:=h5.2 a ha
     unfold ftR at h6
     rw [decide_eq_true_eq] at h6
     exact ⟨((formG_zero hzg x hx).2 a ha).1,h6⟩
theorem small_good {f:List GNode} (hf:GoodF f):SmallF f:=⟨hf.1,fun x hx=>(hf.2 x hx).1⟩
end
/- Plain: what is valid for a hierarchy, and the laws of unification. -/
section
theorem can_RO {f:List GNode} (hf:GoodF f) (hs:SrtF f) (h0:0 < f.length) (hc:canonicalB f=true):RO f:=by
 have h1:=part_RO hf hs h0 (fun _ _=>true)
 rwa [partF_self hc fun _ _ _ _=>rfl] at h1
theorem valid_VF {h:HierD} (hb1:h.1.length≤256) (hb2:h.2.length≤64) {f:List GNode} (hv:validB h f=true):VF h f∧f.length≤12:=by
 obtain ⟨g1,g2,g3,g4,g5,g6,g7⟩:=valid_goodH hb1 hb2 hv
 exact ⟨⟨g1,g3,g4,fun x hx=>(srtA_iff _).1 (g2 x hx).1,g7,canonical_fix g5,can_RO g1 g2 g3 g5⟩,g6⟩
theorem VF.srt {h:HierD} (hu:HU h) {f:List GNode} (hv:VF h f):SrtF f:=fun x hx=>by
 have:=str_64 (hv.str x hx) (hv.ft64 hu x hx)
 exact ⟨(srtA_iff _).2 (hv.str x hx),by omega⟩
theorem VF.small {h:HierD} {f:List GNode} (hv:VF h f):SmallF f:=small_good hv.good
theorem unifyF_cases {h:HierD} (a b:List GNode):(∃ U,Unif h a b U∧unifyF h a b=(U,true))∨(unifyF h a b=([],false)∧∀ U,¬ Unif h a b U):=by
 unfold unifyF
 by_cases H:∃ U,Unif h a b U
 ·left
  rw [dif_pos H]
  exact ⟨_,H.choose_spec,rfl⟩
 ·right
  rw [dif_neg H]
  exact ⟨rfl,fun U hU=>H ⟨U,hU⟩⟩
end
/- Plain: there is a unification if there is a structure that both subsume. -/
section
theorem ji_total {h:HierD} (hk:HOk h) {N:List GNode} {P:List (Int×Int)}:∀ (k:Nat) (p ty:List Int) (ar:List (List (Int×Int))) (W:List (Int×Int)),JI h N P p ty ar W→nR p * ((featsN N).length + 1) + W.length≤k →
  (∃ p' ty' ar',JI h N P p' ty' ar' [])∨(∀ X v,TyOk h X→¬ XOk h N P X v):=by
 intro k
 induction k with
 | zero =>
  intro p ty ar W hj hm
  have:W=[]:=List.eq_nil_of_length_eq_zero (by omega)
  subst this
  exact .inl ⟨p,ty,ar,hj⟩
 | succ k ih =>
  intro p ty ar W hj hm
  cases hw:W.getLast? with
  | none =>
   have:W=[]:=List.getLast?_eq_none_iff.1 hw
   subst this
   exact .inl ⟨p,ty,ar,hj⟩
  | some w =>
   have hW:W=W.dropLast++[w]:=by
    obtain ⟨hne,e⟩:=List.getLast?_eq_some_iff.1 hw
    rw [e]
    simp
   obtain ⟨s,t⟩:=w
   rw [hW] at hj hm
   rw [List.length_append,List.length_singleton] at hm
   generalize W.dropLast=V at *
   obtain ⟨⟨s0,s1⟩,t0,t1⟩:=hj.wr (s,t) (by simp)
   simp only at s0 s1 t0 t1
   obtain ⟨rk,fo⟩:=hj.fo
   have lp:=hj.lp
   obtain ⟨a,ha,a0,a1⟩:=fo.root s0 (by omega)
   obtain ⟨b,hb,b0,b1⟩:=fo.root t0 (by omega)
   by_cases he:a=b
   ·subst he
    exact ih p ty ar V (ji_skip hj ha hb) (by omega)
   ·cases hmt:(meetF h (ty.getD a.toNat 0) (ty.getD b.toNat 0)).2 with
    | false =>
     right
     intro X v hX hv
     have:=(ji_meet hk hj ha hb hX hv).2.1
     rw [hmt] at this
     cases this
    | true =>
     have hj2:=ji_merge hk hj ha hb he hmt
     refine ih _ _ _ _ hj2 ?_
     have hn2:=nR_link (a:=a) b0 b1 hb.root he
     have hla:=str_len (hj.srt a.toNat) (fun x hx=>(hj.arr a.toNat x hx).2)
     have hpr:=Nat.le_trans (mrg_num (x:=ar.getD a.toNat []) (y:=ar.getD b.toNat [])) hla
     have hmul:nR p * ((featsN N).length + 1)=nR (p.set b.toNat a) * ((featsN N).length + 1) + ((featsN N).length + 1):=by rw [← hn2,Nat.add_mul,Nat.one_mul]
     rw [List.length_append]
     omega
theorem jis_total {h:HierD} (hk:HOk h) {N:List GNode}:∀ (R P:List (Int×Int)) (p ty:List Int) (ar:List (List (Int×Int))),(∀ q∈R,(0≤q.1∧q.1 < (N.length:Int))∧(0≤q.2∧q.2 < (N.length:Int)))→JI h N P p ty ar [] →
  (∃ p' ty' ar',JI h N (P++R) p' ty' ar' [])∨(∀ X v,TyOk h X→¬ XOk h N (P++R) X v)
 | [],P,p,ty,ar,hr,hj=>.inl ⟨p,ty,ar,by rw [List.append_nil];exact hj⟩
 | q :: R,P,p,ty,ar,hr,hj=>by
  obtain ⟨a,b⟩:=q
  have hq:=hr (a,b) (by simp)
  have hP:P++(a,b) :: R=P++[(a,b)]++R:=by simp
  rw [hP]
  rcases ji_total hk _ _ _ _ _ (ji_start hj hq.1 hq.2) (Nat.le_refl _) with ⟨p1,t1,r1,h1⟩ | hno
  ·exact jis_total hk R (P++[(a,b)]) p1 t1 r1 (fun q hq=>hr q (by simp [hq])) h1
  ·exact .inr fun X v hX hv=>hno X v hX ⟨hv.rng,hv.ty,hv.arc,fun q hq=>hv.eq q (List.mem_append_left _ hq)⟩
theorem unif_ex {h:HierD} (hu:HU h) {a b X:List GNode} (va:VF h a) (vb:VF h b) (hl:a.length + b.length≤100000) (hX:TyOk h X) {m1 m2:Int→Int} (h1:Hom h a X m1) (h2:Hom h b X m2):∃ U,Unif h a b U:=by
 have hN:=joinN_len a b
 have hap:=va.pos
 have hbp:=vb.pos
 have hgN:=joinN_good va.good vb.good hl
 rcases jis_total hu.ok (N:=joinN a b) [(0,(a.length:Int))] [] _ _ _ (fun q hq=>by
  have e:q=(0,(a.length:Int)):=by simpa using hq
  subst e
  simp only
  omega) (ji_init hgN (joinN_ty va.ty vb.ty) (joinN_str va.str vb.str)) with ⟨p,ty,ar,hj⟩ | hno
 ·exact ⟨_,unif_of va vb hj (quo_good hj (by omega) (joinN_ft (va.ft64 hu) (vb.ft64 hu)))⟩
 ·exfalso
  refine hno X _ hX (xok_eq (xok_join va.good vb.good (hom_xok h1) (hom_xok h2)) fun q hq=>?_)
  have e:q=(0,(a.length:Int)):=by simpa using hq
  subst e
  try simp only
  rw [if_pos (by omega),if_neg (by omega),Int.sub_self,h1.zero,h2.zero]
/-! What the statements ask -/
structure H11 (h:HierD):Prop where
 hu:HU h
 top:HTop h
 b1:h.1.length≤256
theorem compile_h11 (d:List DeclD):H11 (compileF d).1:=⟨⟨compile_hok d,compile_inj d,(compile_bounds d).2⟩,compile_top d,(compile_bounds d).1⟩
end
end Go.Proofs.YtebfihindnhccaaGreat.Fw
