/- Contracts of the program's and the reference's functions, and the plain laws of what they compute: P2 P7 W1 W2 W3 SN R15l SR L11. -/
/- Functions of restrict: Keep. -/
import Derived.Test.YtebfihindnhccaaYA
set_option linter.unusedVariables false
set_option linter.unusedSimpArgs false
namespace Go.Proofs.Ytebfihindnhccaa.Fw
open Go
attribute [local irreducible] Ev
attribute [local go_sem] cx_tb entEnv List.toList_toArray evSeq evG evK vcK guardOf guardT guardB_true guardB_false step1 step0 stepQ takesIn namesParts namesOf namesStore frzAll frz frz1 fixN frzEnv frzObjs drpEnv drpObjs AV.frz AV.frzs AV.drp AV.drps AV.names AV.namess aq qmap qPick qAlloc qBox qBuild qBuildSlice qBuildSlice2 qLoad qLoadB qLoadB2 qLoadE qLoadE2 qLoadE3 qFieldI qOff qPart qField qIndexA qIndex qIndexS qNil qBin qUn qConv qMake qMake2 qSlice qExtract qLen qAppend qAppend2 qAppend3 qMin qMax qCall qCall2 qCall3 qBuiltin qCallee aloud lStoreD lStore lStoreB lStoreB2 lStoreE lStoreE3 lStoreE4 namesStore isNest asA ninT qLoadN qBuildS qNest1 qNest2 qNest3 lNin2 lNin3 lNin4 lBackS lBack2 lBack3 lJoin lJoin2 lJoin3 lNew lNew2 lNew3 AV.trn AV.trns trnEnv trnObjs Obj.trn appN2 stoN lCallee lBuiltin lAppend lAppend2 lAppend3 lAppend4 opv lk constAV optAV sliceQ bin binI binS binB boolT zf1 zfs pfs AV.cells nthOff loadB offB storeB notAg fitsT fitsO Ty.cell1 fieldOk partsT partsAg argsT asT asT1 asTs pairO srT castTo_self getF setF getP setP offP offF fldT rvAV rvObj rvAVs rvObjs resAV RV.flat Ty.flat Ty.size St.add upd del fresh Value.oneCell' refZ Ty.dflt sub_all sub_one sub_take sub_end List.take_succ_cons List.take_zero List.length_cons cast0 castS sub_app take_app sub_app1 take_app1 take_one1 natC zero_le_natC i64_min i64_max u64_min u64_max u8_min u8_max inK_i64 inK_u64 inK_u8 Option.map_some Option.map_none Option.bind_some Option.getD_some Option.getD_none Option.isNone_none Option.isNone_some Bool.and_true Bool.true_and Bool.and_false Bool.false_and Bool.not_true Bool.not_false if_true if_false List.length_cons List.length_nil and_true true_and and_self List.all_cons List.all_nil List.append_nil List.nil_append List.cons_append List.getElem?_cons_zero List.getElem?_cons_succ List.getElem?_nil List.map_cons List.map_nil List.set_cons_zero List.set_cons_succ List.isEmpty_nil List.isEmpty_cons decide_true decide_false beq_self_eq_true bne_self_eq_false Nat.zero_add Nat.add_zero Nat.sub_zero Int.toNat_natCast Int.toNat_zero Int.toNat_one List.take_length List.length_append List.length_singleton true_or or_true or_self false_or or_false Ty.agg.injEq Ty.slice.injEq Ty.prod.injEq Ty.int.injEq Option.some.injEq beq_iff_eq evM evMG evMQ opM isPick viewE viewS viewG opTs opTmp consE guardM guardM1 guardM2 sideM sideM2 pickM pickM2 sufB chEq_nil chEq_nc chEq_cn chEq_cons memB dstOf Op.operands Call.operands List.filterMap_cons List.filterMap_nil List.append_eq Bool.cond_false_right Bool.cond_true_left cond_true cond_false implies_true decide_eq_true_eq beq_true beq_false Bool.or_true Bool.or_false Bool.true_or Bool.false_or Option.isSome_some fieldV namesAg namesAgs capNs qClo qClo2 qMakeMap qMakeMap2 qMakeMap3 qLook qLook2 qLook3 qLook4 keyT keyP eqT inB lMapUp lMapUp2 lMapUp3 namesMap argEnv cm_tb List.drop_zero pruneR prune rem1 afterM addDst fgtEnv AV.fgt AV.fgts Obj.fgt restObjs handed memB calleeOf opvs matchArgs matchArg List.any_cons List.any_nil evF evFO evFQ evFK addQ frOk qs List.flatMap_cons List.flatMap_nil List.cons_append tn appN fgtEN List.take_succ_cons List.drop_succ_cons isYl parEnv rangeSt cY_tb marked_tb renOk renIn matchObjs matchEnv matchE matchAV matchAVs matchF matchO pureT
attribute [local go_sem] ty1 ty2 ty3 ty4 ty5 ty9 ty12 ty21 ty22 ty23 ty24 ty25 ty26 ty27 ty28 ty29 ty30 ty31 ty32 ty33 ty35 ty36 ty37 ty38 ty39 ty40 ty41 ty42 ty43 ty44 ty45 ty46 ty47 ty48 ty49 ty50 ty51 ty52 ty54 ty55 ty56 ty57 ty58 ty59 ty60 ty61 ty62 ty63 ty64 ty65 ty66 ty67 ty68 ty69 ty70 ty72 ty73 ty74 ty76 ty77 ty78 ty80 ty81 ty82 ty83 ty84 ty85 ty86 ty87 ty88 ty89 ty90 ty92 ty93 ty95 ty96 ty97 ty98 ty99 ty100 ty101 ty102 ty103 ty105 ty106 ty107 ty108 ty109 ty110 ty111 ty112 ty113 ty114 ty115 ty116 ty117 ty118 ty119 ty120 ty121 ty122 ty123 ty124 ty125 ty127 ty128 ty129 ty130 ty131 ty132 ty133 ty134 ty135 ty136 ty138 ty139 ty140 ty141 ty142 ty143 ty144 ty145 ty146 ty147 ty148 ty149 ty150 ty151 ty152 ty153 ty154 ty155 ty156 ty157 ty158 ty159 ty161 ty162 ty163 ty164 ty165 ty166 ty167 ty168 ty169 ty170 ty171 ty172 ty173 ty174 ty175 ty176 ty177 ty178 ty179 ty180 ty181 ty182 ty183 ty184 ty185 ty186 ty187 ty188 ty189 ty190 ty191 ty192 ty193 ty194 ty196 ty197 ty198 ty199 ty200 ty201 ty202 ty203 ty204 ty205 ty206 ty207 ty208 ty209 ty211 ty212 ty218 ty221 ty222
set_option maxRecDepth 100000
set_option maxHeartbeats 4000000
section
attribute [local go_sem] subS canonicalS
abbrev KMap:=List ((Int×Int)×Bool)
def accK (l:KMap) (n:Int) (a:Int×Int):Bool:=(mfind T85 .bool (n,a.1) l).getD false
theorem keepC_ok (l:KMap) (n:Int) (a:Int×Int):CallM Try.prog 42 [.p T3 n,.p T78 a,.bp 1 [] 0] [(1,.box 83 false [.mp 3]),(3,.mapo T85 .bool l)] [1,3] (fun res objs'=>res=.p .bool (accK l n a)∧objs'=[(1,.box 83 false [.mp 3]),(3,.mapo T85 .bool l)]):=by
 refine fnM_ok Try.func42 (by kernel_rfl) rfl Try.ntmps42 (by simp only [List.length_cons,List.length_nil];omega) (by kernel_rfl) rfl rfl (tyTab_ok []) fns_nil ?_
 intro w0 K O0 ρ0 hc hok1 hok2
 simp only [argEnv]
 repeat' (first | exact trivial | refine eS rfl ?_ | refine ev_out_inv ?_ | refine rX [0,1,2,4,5] hc ?_ ?_ | (refine rC (fun hcond=>?_) (fun hcond=>?_)<;>try (cases hcond;done)))
 refine Ev.ent (σ':=⟨[(5,.p .bool (accK l n a))],[(1,.box 83 false [.mp 3]),(3,.mapo T85 .bool l)]⟩) ?_ (ent_match [(1,.nm 1),(3,.nm 3)] rfl rfl ?_ ?_)
 ·exact ev_finM hc [.tmp 5] rfl (.inl rfl) (.p .bool (accK l n a)) eT ⟨rfl,rfl⟩
 ·first | exact eN | refine eM ?_
 ·first | exact eN | refine eM ?_
  rfl
theorem partK_ok (f:List GNode) (hf:GoodF f) (hs:SrtF f) (h0:0 < f.length) (l:KMap):CallM Try.prog 41 [.p T25 f,.clo 42 [1]] [(1,.box 83 false [.mp 3]),(3,.mapo T85 .bool l)] [1,3] (fun res _=>res=.p T25 (partF (accK l) f)):=by
 refine fnM_ok Try.func41 (by kernel_rfl) rfl Try.ntmps41 (by simp only [List.length_cons,List.length_nil];omega) (by kernel_rfl) rfl rfl (tyTab_ok [(63,subS)]) (fns_cons sub_ok fns_nil) ?_
 intro w0 K O0 ρ0 hc hok1 hok2
 simp only [argEnv]
 have hfl:=hf.1
 repeat' (first | exact trivial | refine eS rfl ?_ | refine ev_out_inv ?_ | refine rX [0,1,2,4,5,6,7,8,10,12,13,14,15,23,24,25,26,32] hc ?_ ?_ | (refine rC (fun hcond=>?_) (fun hcond=>?_)<;>try (cases hcond;done)))
 refine ev_loop (ι:={i:Nat // i≤f.length}) (fun i=>⟨[(1,.clo 42 [1]),(2,.bp 2 [] 0),(4,.bp 4 [] 0),(5,.bp 5 [] 0),(12,.p T23 f),(13,.p (.int .i64) (f.length:Int)),(14,.p (.int .i64) (i.1:Int))],[(5,.box 25 true [.sr 44 T62 0 i.1]),(4,.box 25 true [.raw (.slice none 0 0)]),(2,.box 25 true [.p T23 f]),(44,.arr 62 T62 (partL (accK l) f i.1)),(1,.box 83 false [.mp 3]),(3,.mapo T85 .bool l)]⟩) (fun i=>f.length - i.1) ⟨0,by omega⟩ (ent_match [(5,.nm 5),(4,.nm 4),(2,.nm 2),(44,.nil),(1,.nm 1),(3,.nm 3)] rfl rfl ?_ ?_) (fun i=>?_)
 ·first | exact eN | refine eM ?_
  rfl
 ·first | exact eN | refine eM ?_
 ·obtain ⟨i,hi⟩:=i
  repeat' (first | exact trivial | refine eS rfl ?_ | refine ev_out_inv ?_ | refine rX [0,1,2,4,5,6,7,8,10,12,13,14,15,23,24,25,26,32] hc ?_ ?_ | (refine rC (fun hcond=>?_) (fun hcond=>?_)<;>try (cases hcond;done)))
  ·exact eV
  ·have hif:i < f.length:=by exact eV
   have hx:(f.getD i (0,[])).2.length≤100000:=(hf.2 _ (mem_of_take_succ f (0,[]) hif)).1
   have hpn:partN (accK l) f i=((f.getD i (0,[])).1,(f.getD i (0,[])).2.filter ((accK l) (i:Int))):=rfl
   generalize hgx:f.getD i (0,[])=x at *
   obtain ⟨xt,L⟩:=x
   simp only at hx hpn
   refine ev_loop (ι:={k:Nat // k≤L.length}) (fun k=>⟨[(1,.clo 42 [1]),(2,.bp 2 [] 0),(4,.bp 4 [] 0),(5,.bp 5 [] 0),(6,.p (.int .i64) (i:Int)),(8,.bp 8 [] 0),(12,.p T23 f),(13,.p (.int .i64) (f.length:Int)),(14,.p (.int .i64) (i:Int)),(23,.p T60 L),(24,.p (.int .i64) (L.length:Int)),(25,.p (.int .i64) (k.1:Int))],[(8,.box 62 true [.p T3 xt,.sr 37 T78 0 ((L.take k.1).filter ((accK l) (i:Int))).length]),(37,.arr 78 T78 ((L.take k.1).filter ((accK l) (i:Int)))),(5,.box 25 true [.sr 44 T62 0 i]),(4,.box 25 true [.raw (.slice none 0 0)]),(2,.box 25 true [.p T23 f]),(44,.arr 62 T62 (partL (accK l) f i)),(1,.box 83 false [.mp 3]),(3,.mapo T85 .bool l)]⟩) (fun k=>L.length - k.1) ⟨0,by omega⟩ (ent_match [(8,.nm 8),(37,.nil),(5,.nm 5),(4,.nm 4),(2,.nm 2),(44,.nm 44),(1,.nm 1),(3,.nm 3)] rfl rfl ?_ ?_) (fun k=>?_)
   ·first | exact eN | refine eM ?_
    exact ⟨rfl,rfl⟩
   ·first | exact eN | refine eM ?_
   ·obtain ⟨k,hk⟩:=k
    repeat' (first | exact trivial | refine eS rfl ?_ | refine ev_out_inv ?_ | refine rX [0,1,2,4,5,6,7,8,10,12,13,14,15,23,24,25,26,32] hc ?_ ?_ | (refine rC (fun hcond=>?_) (fun hcond=>?_)<;>try (cases hcond;done)))
    ·exact eV
    ·have hkL:k < L.length:=by exact eV
     have hlf:=List.length_filter_le ((accK l) (i:Int)) (L.take k)
     have hlt:=List.length_take_le k L
     have hsn:=filter_snoc ((accK l) (i:Int)) L hkL
     refine cP 3 hc ?_ ?_
     ·trivial
     ·refine rM hc (keepC_ok l (i:Int) (L.getD k (0,0))) [(1,.nm 1),(3,.nm 3)] [] ?_ ?_ ?_
      ·first | exact eN | refine eM ?_
      ·first | exact eN | refine eM ?_
      ·rintro _ _ ⟨rfl,rfl⟩
       refine ⟨[(1,.nm 1),(3,.nm 3)],.p .bool ((accK l) (i:Int) (L.getD k (0,0))),[(1,.box 83 false [.mp 3]),(3,.mapo T85 .bool l)],rfl,rfl,?_,?_,rfl,rfl,evL_end ?_⟩
       ·first | exact eN | refine eM ?_
       ·first | exact eN | refine eM ?_
       ·generalize hac:(accK l) (i:Int) (L.getD k (0,0))=ac at *
        repeat' (first | exact trivial | refine eS rfl ?_ | refine ev_out_inv ?_ | refine rX [0,1,2,4,5,6,7,8,10,12,13,14,15,23,24,25,26,32] hc ?_ ?_ | (refine rC (fun hcond=>?_) (fun hcond=>?_)<;>try (cases hcond;done)))
        ·simp only [maxN]
         omega
        ·exact eV
        ·have hcond:ac=true:=hcond
         subst hcond
         rw [if_pos rfl] at hsn
         refine ⟨⟨k + 1,by omega⟩,by simp only;omega,ent_match [(8,.nm 8),(37,.nm 37),(5,.nm 5),(4,.nm 4),(2,.nm 2),(44,.nm 44),(1,.nm 1),(3,.nm 3)] rfl rfl ?_ ?_⟩
         ·simp only [hsn]
          first | exact eN | refine eM ?_
         ·first | exact eN | refine eM ?_
        ·exact eV
        ·have hcond:ac=false:=hcond
         subst hcond
         rw [if_neg (by simp)] at hsn
         rw [List.append_nil] at hsn
         refine ⟨⟨k + 1,by omega⟩,by simp only;omega,ent_match [(8,.nm 8),(37,.nm 37),(5,.nm 5),(4,.nm 4),(2,.nm 2),(44,.nm 44),(1,.nm 1),(3,.nm 3)] rfl rfl ?_ ?_⟩
         ·simp only [hsn]
          first | exact eN | refine eM ?_
         ·first | exact eN | refine eM ?_
    ·simp only [maxN];omega
    ·exact eV
    ·have hkL:L.take k=L:=List.take_of_length_le (by exact eV)
     rw [hkL]
     refine ⟨⟨i + 1,by omega⟩,by simp only;omega,ent_match [(5,.nm 5),(4,.nm 4),(2,.nm 2),(44,.nm 44),(1,.nm 1),(3,.nm 3)] rfl rfl ?_ ?_⟩
     ·simp only [partL_succ,hpn]
      first | exact eN | refine eM ?_
      rw [List.take_of_length_le (Nat.le_of_eq (partL_len _ f i))]
     ·first | exact eN | refine eM ?_
  ·have hif:i=f.length:=by exact eV
   subst hif
   obtain ⟨hg1,hg2⟩:=part_good hf hs (accK l)
   have hpl:=partL_len (accK l) f f.length
   have hpf:partF (accK l) f=canonicalF (partL (accK l) f f.length) 0:=rfl
   refine frzE [44] ?_
   have htl:(partL (accK l) f f.length).take f.length=partL (accK l) f f.length:=List.take_of_length_le (Nat.le_of_eq hpl)
   rw [hpf]
   rw [htl]
   generalize partL (accK l) f f.length=g at *
   repeat' (first | exact trivial | refine eS rfl ?_ | refine ev_out_inv ?_ | refine rX [0,1,2,4,5,6,7,8,10,12,13,14,15,23,24,25,26,32] hc ?_ ?_ | (refine rC (fun hcond=>?_) (fun hcond=>?_)<;>try (cases hcond;done)))
   ·exact ⟨hg1,hg2,by exact eV⟩
   ·exact ev_finM hc [.cell 4 25] rfl (.inl rfl) (.p T25 (canonicalF g 0)) eT rfl
def toF (l:List (Int×Int)) (x:Int):Int:=l.foldl (fun t a=>if a.1=x then a.2 else t) (-1)
def kpF (f:List GNode):KMap→Int→List Int→KMap
 | m,_,[]=>m
 | m,n,x :: r=>if toF (f.getD n.toNat (0,[])).2 x < 0 then m else kpF f (mput T85 .bool (n,x) true m) (toF (f.getD n.toNat (0,[])).2 x) r
def keptF (f:List GNode) (ps:List (List Int)):KMap:=ps.foldl (fun m p=>kpF f m 0 p) []
def pkeepF (f:List GNode) (ps:List (List Int)):List GNode:=partF (accK (keptF f ps)) f
def pkeepS:Spec:={ ins:=[T25,T47],pre:=fun (f,_,_)=>GoodF f∧SrtF f∧0 < List.length f,out:=fun (f,l,_)=>[.p T25 (pkeepF f l)] }
theorem toF_or {f:List GNode} (hf:GoodF f) (n x:Int):toF (f.getD n.toNat (0,[])).2 x < f.length:=by
 have key:∀ (l:List (Int×Int)) (t:Int),(∀ a∈l,a.2 < (f.length:Int))→t < f.length→l.foldl (fun t a=>if a.1=x then a.2 else t) t < f.length:=by
  intro l
  induction l with
  | nil=>intro t _ h;exact h
  | cons a l ih =>
   intro t hl h
   simp only [List.foldl_cons]
   refine ih _ (fun b hb=>hl b (by simp [hb])) ?_
   split
   ·exact hl a (by simp)
   ·exact h
 exact key _ _ (fun a ha=>(arcs_in' hf ha).2) (by omega)
theorem pkeep_ok:FnOk Try.prog 20 pkeepS:=by
 refine fn_ok Try.func20 (by kernel_rfl) rfl Try.ntmps20 (by decide) (by kernel_rfl) (tyTab_ok []) fns_nil ?_
 rintro w0 O0 ⟨f,ps,u⟩ hc ⟨hokf,⟨hlp,hps⟩,-⟩ ⟨hf,hs,h0⟩
 simp only [maxN] at hlp
 have hfl:=hf.1
 simp only [pkeepS,entEnv]
 repeat' (first | exact trivial | refine eS rfl ?_ | refine ev_out_inv ?_ | refine rX [0,1,2,4,5,7,8,10,11,13,15,16,17,18,21,22,23,24,32,33,34,35,41,46] hc ?_ ?_ | (refine rC (fun hcond=>?_) (fun hcond=>?_)<;>try (cases hcond;done)))
 refine ev_loop (ι:={i:Nat // i≤ps.length}) (fun i=>⟨[(2,.bp 2 [] 0),(4,.bp 4 [] 0),(5,.bp 5 [] 0),(15,.p T47 ps),(16,.p (.int .i64) (ps.length:Int)),(17,.p (.int .i64) (i.1:Int))],[(4,.box 25 true [.raw (.slice none 0 0)]),(2,.box 25 true [.p T23 f]),(5,.box 83 false [.mp 14]),(14,.mapo T85 .bool (keptF f (ps.take i.1)))]⟩) (fun i=>ps.length - i.1) ⟨0,by omega⟩ (ent_match [(4,.nm 4),(2,.nm 2),(5,.nm 5),(14,.nm 14)] rfl rfl ?_ ?_) (fun i=>?_)
 ·first | exact eN | refine eM ?_
  rfl
 ·first | exact eN | refine eM ?_
 ·obtain ⟨i,hi⟩:=i
  have hsn:=fun h:i < ps.length=>fold_take (fun m p=>kpF f m 0 p) ps ([]:List Int) [] h
  repeat' (first | exact trivial | refine eS rfl ?_ | refine ev_out_inv ?_ | refine rX [0,1,2,4,5,7,8,10,11,13,15,16,17,18,21,22,23,24,32,33,34,35,41,46] hc ?_ ?_ | (refine rC (fun hcond=>?_) (fun hcond=>?_)<;>try (cases hcond;done)))
  ·exact eV
  ·have hil:i < ps.length:=by exact eV
   have hpl:(ps.getD i []).length≤140737488355328:=(hps _ (mem_of_take_succ ps [] hil)).1
   have hnx:=hsn hil
   generalize ps.getD i []=p at *
   generalize hm0:keptF f (ps.take i)=m0 at *
   refine ev_loop (ι:={x:Nat×KMap×Int // x.1≤p.length∧0≤x.2.2∧x.2.2 < f.length∧kpF f x.2.1 x.2.2 (p.drop x.1)=kpF f m0 0 p}) (fun x=>⟨[(2,.bp 2 [] 0),(4,.bp 4 [] 0),(5,.bp 5 [] 0),(8,.p T3 x.1.2.2),(15,.p T47 ps),(16,.p (.int .i64) (ps.length:Int)),(17,.p (.int .i64) (i:Int)),(21,.p T41 p),(22,.p (.int .i64) (p.length:Int)),(23,.p (.int .i64) (x.1.1:Int))],[(4,.box 25 true [.raw (.slice none 0 0)]),(2,.box 25 true [.p T23 f]),(5,.box 83 false [.mp 14]),(14,.mapo T85 .bool x.1.2.1)]⟩) (fun x=>p.length - x.1.1) ⟨(0,m0,0),by simp,by simp,by simp;omega,by simp⟩ (ent_match [(4,.nm 4),(2,.nm 2),(5,.nm 5),(14,.nm 14)] rfl rfl ?_ ?_) (fun x=>?_)
   ·first | exact eN | refine eM ?_
   ·first | exact eN | refine eM ?_
   ·obtain ⟨⟨k,m,n⟩,hk,hn0,hn1,hkp⟩:=x
    simp only at hk hn0 hn1 hkp
    simp only
    repeat' (first | exact trivial | refine eS rfl ?_ | refine ev_out_inv ?_ | refine rX [0,1,2,4,5,7,8,10,11,13,15,16,17,18,21,22,23,24,32,33,34,35,41,46] hc ?_ ?_ | (refine rC (fun hcond=>?_) (fun hcond=>?_)<;>try (cases hcond;done)))
    ·exact eV
    ·exact ⟨hn0,hn1⟩
    ·have hkp2:k < p.length:=by exact eV
     have hdrop:p.drop k=p.getD k 0 :: p.drop (k + 1):=by
      rw [List.drop_eq_getElem_cons hkp2,List.getD_eq_getElem?_getD,List.getElem?_eq_getElem hkp2];rfl
     have hto:=toF_or hf n (p.getD k 0)
     have htoF:toF (f.getD n.toNat (0,[])).2 (p.getD k 0)=(f.getD n.toNat (0,[])).2.foldl (fun t a=>if a.1=p.getD k 0 then a.2 else t) (-1):=rfl
     have hLl:=arcs_len hf n
     have hkpF:∀ m n x r,kpF f m n (x :: r)=if toF (f.getD n.toNat (0,[])).2 x < 0 then m else kpF f (mput T85 .bool (n,x) true m) (toF (f.getD n.toNat (0,[])).2 x) r:=fun _ _ _ _=>rfl
     rw [hdrop,hkpF] at hkp
     rw [htoF] at hkp hto
     generalize (f.getD n.toNat (0,[])).2=L at *
     have hsnj:=fun (j:Nat) (h:j < L.length)=>fold_take (fun (t:Int) (a:Int×Int)=>if a.1=p.getD k 0 then a.2 else t) L (0,0) (-1:Int) h
     refine ev_loop (ι:={j:Nat // j≤L.length}) (fun j=>⟨[(2,.bp 2 [] 0),(4,.bp 4 [] 0),(5,.bp 5 [] 0),(8,.p T3 n),(10,.p T3 (p.getD k 0)),(11,.p T3 (L.take j.1 |>.foldl (fun t a=>if a.1=p.getD k 0 then a.2 else t) (-1:Int))),(15,.p T47 ps),(16,.p (.int .i64) (ps.length:Int)),(17,.p (.int .i64) (i:Int)),(21,.p T41 p),(22,.p (.int .i64) (p.length:Int)),(23,.p (.int .i64) (k:Int)),(32,.p T60 L),(33,.p (.int .i64) (L.length:Int)),(34,.p (.int .i64) (j.1:Int))],[(4,.box 25 true [.raw (.slice none 0 0)]),(2,.box 25 true [.p T23 f]),(5,.box 83 false [.mp 14]),(14,.mapo T85 .bool m)]⟩) (fun j=>L.length - j.1) ⟨0,by omega⟩ (ent_match [(4,.nm 4),(2,.nm 2),(5,.nm 5),(14,.nm 14)] rfl rfl ?_ ?_) (fun j=>?_)
     ·first | exact eN | refine eM ?_
     ·first | exact eN | refine eM ?_
      rfl
     ·obtain ⟨j,hj⟩:=j
      simp only
      have hnj:=hsnj j
      generalize hto0:(L.take j).foldl (fun (t:Int) (a:Int×Int)=>if a.1=p.getD k 0 then a.2 else t) (-1)=to at *
      repeat' (first | exact trivial | refine eS rfl ?_ | refine ev_out_inv ?_ | refine rX [0,1,2,4,5,7,8,10,11,13,15,16,17,18,21,22,23,24,32,33,34,35,41,46] hc ?_ ?_ | (refine rC (fun hcond=>?_) (fun hcond=>?_)<;>try (cases hcond;done)))
      ·exact eV
      ·exact eV
      ·have hjL:j < L.length:=by exact eV
       refine ⟨⟨j + 1,by omega⟩,by simp only;omega,ent_match [(4,.nm 4),(2,.nm 2),(5,.nm 5),(14,.nm 14)] rfl rfl ?_ ?_⟩
       ·first | exact eN | refine eM ?_
       ·simp only [hnj hjL]
        rw [if_pos hcond]
        first | exact eN | refine eM ?_
      ·exact eV
      ·have hjL:j < L.length:=by exact eV
       refine ⟨⟨j + 1,by omega⟩,by simp only;omega,ent_match [(4,.nm 4),(2,.nm 2),(5,.nm 5),(14,.nm 14)] rfl rfl ?_ ?_⟩
       ·first | exact eN | refine eM ?_
       ·simp only [hnj hjL]
        rw [if_neg hcond]
        first | exact eN | refine eM ?_
      ·exact eV
      ·have hjL:L.take j=L:=List.take_of_length_le (by exact eV)
       rw [hjL] at hto0
       rw [hto0,if_pos hcond] at hkp
       refine ⟨⟨i + 1,by omega⟩,by simp only;omega,ent_match [(4,.nm 4),(2,.nm 2),(5,.nm 5),(14,.nm 14)] rfl rfl ?_ ?_⟩
       ·simp only
        unfold keptF
        rw [hnx]
        unfold keptF at hm0
        rw [hm0,← hkp]
        first | exact eN | refine eM ?_
       ·first | exact eN | refine eM ?_
      ·exact eV
      ·have hjL:L.take j=L:=List.take_of_length_le (by exact eV)
       rw [hjL] at hto0
       rw [hto0] at hkp hto
       rw [if_neg (by omega)] at hkp
       refine ⟨⟨(k + 1,mput T85 .bool (n,p.getD k 0) true m,to),by simp only;omega,hcond,hto,hkp⟩,by simp only;omega,ent_match [(4,.nm 4),(2,.nm 2),(5,.nm 5),(14,.nm 14)] rfl rfl ?_ ?_⟩
       ·first | exact eN | refine eM ?_
       ·first | exact eN | refine eM ?_
    ·exact eV
    ·have hkL:p.drop k=[]:=List.drop_eq_nil_of_le (by exact eV)
     rw [hkL] at hkp
     have hkp:m=kpF f m0 0 p:=hkp
     refine ⟨⟨i + 1,by omega⟩,by simp only;omega,ent_match [(4,.nm 4),(2,.nm 2),(5,.nm 5),(14,.nm 14)] rfl rfl ?_ ?_⟩
     ·simp only
      unfold keptF
      rw [hnx]
      unfold keptF at hm0
      rw [hm0,← hkp]
      first | exact eN | refine eM ?_
     ·first | exact eN | refine eM ?_
  ·have hk:ps.take i=ps:=List.take_of_length_le (by exact eV)
   rw [hk]
   refine cP 2 hc ?_ ?_
   ·trivial
   ·refine rM hc (partK_ok f hf hs h0 (keptF f ps)) [(1,.nm 5),(3,.nm 14)] [5,14] ?_ ?_ ?_
    ·first | exact eN | refine eM ?_
    ·first | exact eN | refine eM ?_
    ·rintro _ _ rfl
     refine ⟨[],.p T25 (pkeepF f ps),[],rfl,rfl,trivial,?_,rfl,rfl,?_⟩
     ·unfold pkeepF
      first | exact eN | refine eM ?_
     ·refine rL [4] hc ?_ ?_
      ·trivial
      ·repeat' (first | exact trivial | refine eS rfl ?_ | refine ev_out_inv ?_ | refine rX [0,1,2,4,5,7,8,10,11,13,15,16,17,18,21,22,23,24,32,33,34,35,41,46] hc ?_ ?_ | (refine rC (fun hcond=>?_) (fun hcond=>?_)<;>try (cases hcond;done)))
       exact ev_fin hc [.cell 4 25] rfl (.inl rfl) (by simp) (by first | exact eR | refine eRM ?_)
end
/- Functions of grammarlablaw15: exampleHolds. -/
section
attribute [local go_sem] equalS atomS pdropS pkeepS pdepthS
theorem ex1:GoodF [(5,[(0,1),(2,1)]),(6,[(1,2)]),(7,[])]∧SrtF [(5,[(0,1),(2,1)]),(6,[(1,2)]),(7,[])]:=by
 refine ⟨⟨by decide,by decide⟩,fun x hx=>?_⟩
 have:∀ x∈([(5,[(0,1),(2,1)]),(6,[(1,2)]),(7,[])]:List GNode),x.2.Pairwise (fun a b=>a.1 < b.1)∧x.2.length≤200:=by decide
 exact ⟨(srtA_iff _).2 (this x hx).1,(this x hx).2⟩
theorem ex2:GoodF [(3,[(0,0)])]∧SrtF [(3,[(0,0)])]:=by
 refine ⟨⟨by decide,by decide⟩,fun x hx=>?_⟩
 have:∀ x∈([(3,[(0,0)])]:List GNode),x.2.Pairwise (fun a b=>a.1 < b.1)∧x.2.length≤200:=by decide
 exact ⟨(srtA_iff _).2 (this x hx).1,(this x hx).2⟩
def exS:Spec:={ ins:=[],pre:=fun _=>True,out:=fun _=>[.p .bool true] }
theorem ex_ok:FnOk Try.prog 19 exS:=by
 refine fn_ok Try.func19 (by kernel_rfl) rfl Try.ntmps19 (by decide) (by kernel_rfl) (tyTab_ok [(20,pkeepS),(13,equalS),(39,pdepthS),(40,pdropS),(12,atomS)] [7,10,13,17,20,23,26,29,31,34,35,36,42,43,56,63,70,71]) (fns_cons pkeep_ok (fns_cons equal_ok (fns_cons pdepth_ok (fns_cons pdrop_ok (fns_cons atom_ok fns_nil))))) ?_
 rintro w0 O0 u hc - -
 simp only [exS,entEnv]
 repeat' (first | exact trivial | refine eS rfl ?_ | refine ev_out_inv ?_ | refine rX [0,1,2,3,4] hc ?_ ?_ | (refine rC (fun hcond=>?_) (fun hcond=>?_)<;>try (cases hcond;done)))
 ·repeat' (first | exact ex1 | exact ex2 | exact ex1.1 | exact ex1.2 | exact ex2.1 | exact ex2.2 | (refine (?_:SmallF _);unfold SmallF;decide +kernel) | decide +kernel | intro _ | apply And.intro)
 ·refine Ev.ent (σ':=⟨[(0,.p .bool true)],[]⟩) ?_ (ent_match [] rfl rfl ?_ ?_)
  ·exact ev_fin hc [.tmp 0] rfl (.inl rfl) (by simp) (by first | exact eR | refine eRM ?_)
  ·first | exact eN | refine eM ?_
  ·first | exact eN | refine eM ?_
   decide +kernel
end
/- The plain laws under RestrictWhole: the first paths lead to their nodes and are shorter than the nodes are many; all nodes of a canonical feature structure are come to. -/
section
abbrev arcsAt (f:List GNode) (n:Int):List (Int×Int):=(f.getD n.toNat (0,[])).2
def walkF (f:List GNode):Int→List Int→Option Int
 | n,[]=>some n
 | n,x :: r=>if toF (arcsAt f n) x < 0 then none else walkF f (toF (arcsAt f n) x) r
theorem toF_arc {l:List (Int×Int)} (h:l.Pairwise (fun a b=>a.1 < b.1)) {a:Int×Int} (ha:a∈l):toF l a.1=a.2:=by
 have keep:∀ (l:List (Int×Int)) (t:Int),(∀ b∈l,¬ b.1=a.1)→l.foldl (fun t b=>if b.1=a.1 then b.2 else t) t=t:=by
  intro l
  induction l with
  | nil=>intro t _;rfl
  | cons b l ih =>
   intro t hl
   rw [List.foldl_cons,if_neg (hl b (by simp))]
   exact ih t (fun c hc=>hl c (by simp [hc]))
 obtain ⟨l1,l2,rfl⟩:=List.append_of_mem ha
 rw [List.pairwise_append,List.pairwise_cons] at h
 obtain ⟨-,⟨h2,-⟩,-⟩:=h
 unfold toF
 rw [List.foldl_append,List.foldl_cons,if_pos rfl]
 exact keep l2 _ (fun b hb e=>by have:=h2 b hb;omega)
/-! The parts -/
/-! Keep all paths -/
theorem eqT93 (x k:Int×Int):(eqT T85 x k=true)↔x=k:=by
 simp only [eqT,Bool.and_eq_true,beq_iff_eq]
 exact ⟨fun h=>Prod.ext h.1 h.2,fun h=>by rw [h];exact ⟨rfl,rfl⟩⟩
theorem kfind_mput (x k:Int×Int) (m:KMap):(mfind T85 .bool x (mput T85 .bool k true m)).getD false=(decide (x=k) || (mfind T85 .bool x m).getD false):=by
 induction m with
 | nil =>
  by_cases h:x=k
  ·simp only [mput,mfind]
   rw [if_pos ((eqT93 x k).2 h)]
   simp [h]
  ·have h':¬ eqT T85 x k=true:=fun e=>h ((eqT93 x k).1 e)
   simp only [mput,mfind]
   rw [if_neg h']
   simp [h]
 | cons y m ih =>
  simp only [mput]
  by_cases hy:eqT T85 k y.1=true
  ·rw [if_pos hy]
   have hky:=(eqT93 k y.1).1 hy
   simp only [mfind]
   by_cases h:x=k
   ·rw [if_pos ((eqT93 x k).2 h)]
    simp [h]
   ·rw [if_neg (fun e=>h ((eqT93 x k).1 e)),if_neg (fun e=>h (by rw [hky];exact (eqT93 x y.1).1 e))]
    simp [h]
  ·rw [if_neg hy]
   simp only [mfind]
   by_cases hx:eqT T85 x y.1=true
   ·rw [if_pos hx,if_pos hx]
    have hxy:=(eqT93 x y.1).1 hx
    have:¬ x=k:=fun e=>hy ((eqT93 k y.1).2 (by rw [← e];exact hxy))
    simp [this]
   ·rw [if_neg hx,if_neg hx,ih]
abbrev has (m:KMap) (k:Int×Int):Prop:=(mfind T85 .bool k m).getD false=true
theorem kpF_mono {f:List GNode} {k:Int×Int}:∀ (p:List Int) (m:KMap) (n:Int),has m k→has (kpF f m n p) k
 | [],_,_,h=>h
 | x :: r,m,n,h=>by
  simp only [kpF]
  split
  ·exact h
  ·refine kpF_mono r _ _ ?_
   unfold has
   rw [kfind_mput,h,Bool.or_true]
theorem kept_has {f:List GNode} {k:Int×Int}:∀ (ps:List (List Int)) (m:KMap),(has m k∨∃ p∈ps,∀ m,has (kpF f m 0 p) k)→has (ps.foldl (fun m p=>kpF f m 0 p) m) k
 | [],m,h=>by
  rcases h with h | ⟨p,hp,_⟩
  ·exact h
  ·cases hp
 | p :: ps,m,h=>by
  rw [List.foldl_cons]
  refine kept_has ps _ ?_
  rcases h with h | ⟨q,hq,hk⟩
  ·exact .inl (kpF_mono p m 0 h)
  ·rcases List.mem_cons.1 hq with rfl | hq
   ·exact .inl (hk m)
   ·exact .inr ⟨q,hq,hk⟩
end
/- Plain: structures that differ in their nodes' names alone have one canonical form; a part of a part is a part. -/
section
theorem dOk_nil (f:List GNode):DOk f []:=⟨by simp,fun x hx=>by cases hx⟩
/-! Nodes come to -/
structure Ord (f:List GNode) (o:List Int):Prop where
 ok:DOk f o
 zero:o.getD 0 0=0∧0 < o.length
 cl:∀ n∈o,∀ a∈arcsAt f n,a.2∈o
theorem dfs_head {f:List GNode} (hf:GoodF f) (h0:0 < f.length):[0] <+: dfs f f.length [] 0:=by
 obtain ⟨k,hk⟩:∃ k,f.length=k + 1:=⟨f.length - 1,by omega⟩
 rw [hk,dfs_succ]
 exact (foldD_ok (dfs_ok hf k) _ _ (fun a ha=>arcs_in' hf ha) ((dOk_nil f).snoc (by omega) (by omega) (by simp))).2
theorem ord_of {f:List GNode} (hf:GoodF f) (h0:0 < f.length):Ord f (dfs f f.length [] 0):=by
 have h1:=dfs_ok hf f.length [] 0 (dOk_nil f) (by omega) (by omega) (by simp)
 have h2:=dfs_closed hf f.length [] 0 (dOk_nil f) (by omega) (by omega) (by simp) (by simp)
 have h3:=dfs_head hf h0
 refine ⟨h1.1,?_,fun n hn a ha=>?_⟩
 ·obtain ⟨t,ht⟩:=h3
  rw [← ht]
  exact ⟨rfl,by simp⟩
 ·rcases h2.2 n hn with h | h
  ·cases h
  ·exact h a ha
where
 getD_mem' {l:List Int} {d:Int} {k:Nat} (h:k < l.length):l.getD k d∈l:=by
  rw [List.getD_eq_getElem?_getD,List.getElem?_eq_getElem h]
  exact List.getElem_mem h
theorem get_idxZ {o:List Int} {x:Int} (h:x∈o):0≤idxZ o x∧idxZ o x < (o.length:Int)∧o.getD (idxZ o x).toNat 0=x:=by
 unfold idxZ
 rw [if_pos h]
 have hl:=List.idxOf_lt_length_of_mem h
 refine ⟨by omega,by omega,?_⟩
 rw [Int.toNat_natCast,List.getD_eq_getElem?_getD,List.getElem?_eq_getElem hl]
 show o[o.idxOf x]=x
 exact List.getElem_idxOf hl
theorem canon_len (f:List GNode):(canonicalF f 0).length=(dfs f f.length [] 0).length:=by simp [canonicalF]
theorem canon_good {f:List GNode} (hf:GoodF f) (hs:SrtF f) (h0:0 < f.length):GoodF (canonicalF f 0)∧SrtF (canonicalF f 0)∧0 < (canonicalF f 0).length∧(canonicalF f 0).length≤f.length:=by
 have ho:=ord_of hf h0
 have hl:=ho.ok.len
 have hcl:=canon_len f
 refine ⟨⟨by rw [hcl];exact Nat.le_trans hl hf.1,fun x hx=>?_⟩,fun x hx=>?_,by rw [hcl];exact ho.zero.2,by rw [hcl];exact hl⟩
 ·rw [hcl]
  unfold canonicalF at hx
  obtain ⟨n,hn,rfl⟩:=List.mem_map.1 hx
  refine ⟨?_,fun a ha=>?_⟩
  ·unfold nodeD
   rw [List.length_map]
   have:=(srt_of hs n).2
   omega
  ·unfold nodeD at ha
   obtain ⟨b,hb,rfl⟩:=List.mem_map.1 ha
   have:=get_idxZ (ho.cl n hn b hb)
   exact ⟨this.1,this.2.1⟩
 ·unfold canonicalF at hx
  obtain ⟨n,hn,rfl⟩:=List.mem_map.1 hx
  have h1:=srt_of hs n
  unfold nodeD
  refine ⟨?_,by rw [List.length_map];exact h1.2⟩
  rw [srtA_iff,List.pairwise_map]
  exact (srtA_iff _).1 h1.1
theorem part_good2 {f:List GNode} (hf:GoodF f) (hs:SrtF f) (h0:0 < f.length) (acc:Int→Int×Int→Bool):GoodF (partF acc f)∧SrtF (partF acc f)∧0 < (partF acc f).length∧(partF acc f).length≤f.length:=by
 obtain ⟨hPg,hPs⟩:=part_good hf hs acc
 have hPl:=partL_len acc f f.length
 have:=canon_good hPg hPs (by omega)
 rw [hPl] at this
 exact this
end
/- Plain: what Keep keeps; Keep twice is Keep. -/
section
theorem kpF_fwd {f:List GNode} {e y:Int} (hx:0≤toF (arcsAt f y) e) (q:List Int):∀ (p:List Int) (m:KMap) (n:Int),walkF f n p=some y→has (kpF f m n (p++e :: q)) (y,e)
 | [],m,n,h=>by
  simp only [walkF,Option.some.injEq] at h
  subst h
  simp only [List.nil_append,kpF]
  rw [if_neg (fun h=>by have hx':0≤toF (f.getD n.toNat (0,[])).2 e:=hx;omega)]
  refine kpF_mono q _ _ ?_
  unfold has
  rw [kfind_mput]
  simp
 | z :: p,m,n,h=>by
  simp only [walkF,List.cons_append,kpF] at h ⊢
  split at h
  ·cases h
  ·rename_i hc
   rw [if_neg hc]
   exact kpF_fwd hx q p _ _ h
theorem kpF_bwd {f:List GNode} {e y:Int}:∀ (p:List Int) (m:KMap) (n:Int),has (kpF f m n p) (y,e)→has m (y,e)∨∃ p1 q,p=p1++e :: q∧walkF f n p1=some y∧0≤toF (arcsAt f y) e
 | [],m,n,h=>.inl h
 | x :: r,m,n,h=>by
  simp only [kpF] at h
  split at h
  ·exact .inl h
  ·rename_i hc
   rcases kpF_bwd r _ _ h with h | ⟨p1,q,e1,e2,e3⟩
   ·unfold has at h
    rw [kfind_mput,Bool.or_eq_true,decide_eq_true_eq] at h
    rcases h with h | h
    ·right
     have h1:=(Prod.mk.inj h).1
     have h2:=(Prod.mk.inj h).2
     subst h1
     subst h2
     exact ⟨[],r,rfl,rfl,by show 0≤toF (f.getD y.toNat (0,[])).2 e;omega⟩
    ·exact .inl h
   ·right
    refine ⟨x :: p1,q,by rw [e1];rfl,?_,e3⟩
    simp only [walkF]
    rw [if_neg hc]
    exact e2
def Kp (f:List GNode) (ps:List (List Int)) (y e:Int):Prop:=∃ p∈ps,∃ p1 q,p=p1++e :: q∧walkF f 0 p1=some y∧0≤toF (arcsAt f y) e
theorem kept_iff {f:List GNode} {ps:List (List Int)} {y e:Int}:has (keptF f ps) (y,e)↔Kp f ps y e:=by
 constructor
 ·have key:∀ (l:List (List Int)) (m:KMap),has (l.foldl (fun m p=>kpF f m 0 p) m) (y,e)→has m (y,e)∨Kp f l y e:=by
   intro l
   induction l with
   | nil=>intro m h;exact .inl h
   | cons p l ih =>
    intro m h
    rw [List.foldl_cons] at h
    rcases ih _ h with h | ⟨p',hp,r⟩
    ·rcases kpF_bwd p m 0 h with h | ⟨p1,q,r⟩
     ·exact .inl h
     ·exact .inr ⟨p,by simp,p1,q,r⟩
    ·exact .inr ⟨p',by simp [hp],r⟩
  intro h
  rcases key ps [] h with h | h
  ·cases h
  ·exact h
 ·rintro ⟨p,hp,p1,q,e1,e2,e3⟩
  refine kept_has ps [] (.inr ⟨p,hp,fun m=>?_⟩)
  rw [e1]
  exact kpF_fwd e3 q p1 m 0 e2
theorem accK_iff {f:List GNode} {ps:List (List Int)} {n:Int} {a:Int×Int}:accK (keptF f ps) n a=true↔Kp f ps n a.1:=kept_iff
theorem toF_mem (l:List (Int×Int)) (x:Int):toF l x=-1∨∃ a∈l,a.1=x∧a.2=toF l x:=by
 have key:∀ (l:List (Int×Int)) (t:Int),l.foldl (fun t a=>if a.1=x then a.2 else t) t=t∨∃ a∈l,a.1=x∧a.2=l.foldl (fun t a=>if a.1=x then a.2 else t) t:=by
  intro l
  induction l with
  | nil=>intro t;exact .inl rfl
  | cons b l ih =>
   intro t
   rw [List.foldl_cons]
   by_cases h:b.1=x
   ·rw [if_pos h]
    rcases ih b.2 with e | ⟨a,ha,e⟩
    ·exact .inr ⟨b,by simp,h,e.symm⟩
    ·exact .inr ⟨a,by simp [ha],e⟩
   ·rw [if_neg h]
    rcases ih t with e | ⟨a,ha,e⟩
    ·exact .inl e
    ·exact .inr ⟨a,by simp [ha],e⟩
 exact key l (-1)
theorem srt_arcs {f:List GNode} (hs:SrtF f) (n:Int):(arcsAt f n).Pairwise (fun a b=>a.1 < b.1):=(srtA_iff _).1 (srt_of hs n).1
end
/- Plain: nodes whose arcs are put in order; the canonical form sees no more of them. -/
section
def sortN (f:List GNode):List GNode:=f.map fun x=>(x.1,sortedF x.2)
theorem sortN_len (f:List GNode):(sortN f).length=f.length:=by simp [sortN]
theorem sortN_get (f:List GNode) (k:Nat):(sortN f).getD k (0,[])=((f.getD k (0,[])).1,sortedF (f.getD k (0,[])).2):=by
 unfold sortN
 rw [List.getD_eq_getElem?_getD,List.getElem?_map,List.getD_eq_getElem?_getD]
 cases f[k]?<;>rfl
theorem nd_str {l:List (Int×Int)} (h:(l.map (·.1)).Nodup):(sortedF l).Pairwise (fun a b=>a.1 < b.1):=by
 have hp:=sortedF_perm l
 have h1:=sortedF_sorted l
 have h2:((sortedF l).map (·.1)).Nodup:=((hp.map _).nodup_iff).2 h
 rw [List.Nodup,List.pairwise_map] at h2
 exact (h1.and h2).imp fun ⟨a,b⟩=>by omega
theorem sort_idem {l:List (Int×Int)} (h:(l.map (·.1)).Nodup):sortedF (sortedF l)=sortedF l:=sortedF_srt ((srtA_iff _).2 (nd_str h))
theorem visit_sortN {f:List GNode} (h:∀ k,((f.getD k (0,[])).2.map (·.1)).Nodup):∀ (k:Nat) (s:List Int×List Int) (n:Int),visitF (sortN f) k s n=visitF f k s n
 | 0,_,_=>rfl
 | k + 1,s,n=>by
  rw [visitF_succ,visitF_succ,sortN_get,sort_idem (h _)]
  congr 1
  funext t a
  unfold stepV
  rw [visit_sortN h k]
theorem from_sortN {f:List GNode} (h:∀ k,((f.getD k (0,[])).2.map (·.1)).Nodup) (root:Int):fromF (sortN f) root=fromF f root:=by
 unfold fromF travF
 rw [sortN_len,visit_sortN h]
 congr 1
 funext n
 unfold nodeF
 rw [sortN_get,sort_idem (h _)]
theorem pw_ext:∀ {l m:List (Int×Int)},l.Pairwise (fun a b=>a.1 < b.1)→m.Pairwise (fun a b=>a.1 < b.1)→(∀ x,x∈l↔x∈m)→l=m
 | [],[],_,_,_=>rfl
 | [],b :: m,_,_,h=>by have:=(h b).2 (by simp);cases this
 | a :: l,[],_,_,h=>by have:=(h a).1 (by simp);cases this
 | a :: l,b :: m,h1,h2,h=>by
  rw [List.pairwise_cons] at h1 h2
  have hab:a=b:=by
   rcases List.mem_cons.1 ((h a).1 (by simp)) with e | e
   ·exact e
   ·rcases List.mem_cons.1 ((h b).2 (by simp)) with e2 | e2
    ·exact e2.symm
    ·have:=h1.1 b e2
     have:=h2.1 a e
     omega
  subst hab
  congr 1
  refine pw_ext h1.2 h2.2 fun x=>⟨fun hx=>?_,fun hx=>?_⟩
  ·rcases List.mem_cons.1 ((h x).1 (by simp [hx])) with e | e
   ·have:=h1.1 x hx
    rw [e] at this
    omega
   ·exact e
  ·rcases List.mem_cons.1 ((h x).2 (by simp [hx])) with e | e
   ·have:=h2.1 x hx
    rw [e] at this
    omega
   ·exact e
end
/- Plain: the reference's Keep is the program's. -/
section
theorem arcG_spec (l:List (Int×Int)) (x:Int):∀ m,m≤l.length→(arcG l x m=-1∧∀ j,l.length - m≤j→j < l.length→(l.getD j (0,0)).1≠x)∨(0≤arcG l x m∧arcG l x m < (l.length:Int)∧(l.getD (arcG l x m).toNat (0,0)).1=x)
 | 0,_=>.inl ⟨rfl,fun j h1 h2=>by omega⟩
 | m + 1,h=>by
  unfold arcG
  split
  ·rename_i e
   exact .inr ⟨by omega,by omega,by simpa using e⟩
  ·rename_i e
   rcases arcG_spec l x m (by omega) with ⟨h1,h2⟩ | h1
   ·refine .inl ⟨h1,fun j j1 j2=>?_⟩
    by_cases ej:j=l.length - (m + 1)
    ·rw [ej];exact e
    ·exact h2 j (by omega) j2
   ·exact .inr h1
theorem arc_to {l:List (Int×Int)} (hs:l.Pairwise (fun a b=>a.1 < b.1)) (hp:∀ a∈l,0≤a.2) (x:Int):(arcF l x < 0∧toF l x < 0)∨(0≤arcF l x∧0≤toF l x∧l.getD (arcF l x).toNat (0,0)∈l∧(l.getD (arcF l x).toNat (0,0)).1=x∧(l.getD (arcF l x).toNat (0,0)).2=toF l x):=by
 rcases arcG_spec l x l.length (Nat.le_refl _) with ⟨h1,h2⟩ | ⟨h1,h2,h3⟩
 ·refine .inl ⟨by unfold arcF;omega,?_⟩
  rcases toF_mem l x with e | ⟨a,ha,e1,e2⟩
  ·omega
  ·obtain ⟨j,hj,rfl⟩:=List.mem_iff_getElem.1 ha
   have:=h2 j (by omega) hj
   rw [List.getD_eq_getElem?_getD,List.getElem?_eq_getElem hj] at this
   exact absurd e1 this
 ·have h1:0≤arcF l x:=h1
  have h2:arcF l x < (l.length:Int):=h2
  have h3:(l.getD (arcF l x).toNat (0,0)).1=x:=h3
  have hm:=mem_of_take_succ l (0,0) (k:=(arcF l x).toNat) (by omega)
  have ht:=toF_arc hs hm
  rw [h3] at ht
  have:=hp _ hm
  exact .inr ⟨h1,by rw [ht];exact this,hm,h3,ht.symm⟩
section
variable {f:List GNode}
theorem bare_get (k:Nat):(bareN f).getD k (0,[])=((f.getD k (0,[])).1,[]):=by
 unfold bareN
 rw [List.getD_eq_getElem?_getD,List.getElem?_map,List.getD_eq_getElem?_getD]
 cases f[k]?<;>rfl
theorem rows_arcs (hs:SrtF f) (k:Nat):(f.getD k (0,[])).2.Pairwise (fun a b=>a.1 < b.1):=by
 have:=srt_arcs hs (k:Int)
 simpa [arcsAt] using this
theorem rows_pos (hf:GoodF f) (k:Nat):∀ a∈(f.getD k (0,[])).2,0≤a.2:=fun a ha=>by
 have:=arcs_in' hf (n:=(k:Int)) (a:=a) (by simpa using ha)
 exact this.1
theorem kRow_mem (hf:GoodF f) (hs:SrtF f) {g:List GNode} (hgl:g.length=f.length) (hsub:∀ k,∀ a∈(g.getD k (0,[])).2,a∈(f.getD k (0,[])).2) {n:Int} (n0:0≤n) (n1:n < (f.length:Int)) {x:Int} (hx:0≤arcF (f.getD n.toNat (0,[])).2 x) :
  (∀ k:Nat,∀ a,a∈((kRow f g n x).getD k (0,[])).2↔(a∈(g.getD k (0,[])).2∨(k=n.toNat∧a.1=x∧a∈(f.getD k (0,[])).2)))∧((∀ k,((g.getD k (0,[])).2.map (·.1)).Nodup)→∀ k,(((kRow f g n x).getD k (0,[])).2.map (·.1)).Nodup)∧(∀ k,((kRow f g n x).getD k (0,[])).1=(g.getD k (0,[])).1)∧(kRow f g n x).length=g.length:=by
 have hL:=rows_arcs hs n.toNat
 have huniq:∀ a b,a∈(f.getD n.toNat (0,[])).2→b∈(f.getD n.toNat (0,[])).2→a.1=b.1→a=b:=fun a b ha hb e=>by
  have e1:=toF_arc hL ha
  have e2:=toF_arc hL hb
  rw [e] at e1
  exact Prod.ext e (e1.symm.trans e2)
 rcases arc_to hL (rows_pos hf n.toNat) x with ⟨h1,_⟩ | ⟨h1,h2,h3,h4,h5⟩
 ·omega
 generalize hA:(f.getD n.toNat (0,[])).2.getD (arcF (f.getD n.toNat (0,[])).2 x).toNat (0,0)=A at *
 have hgp:∀ a∈(g.getD n.toNat (0,[])).2,0≤a.2:=fun a ha=>rows_pos hf n.toNat a (hsub _ a ha)
 unfold kRow
 rw [hA]
 have hin:arcF (g.getD n.toNat (0,[])).2 x < 0↔A ∉ (g.getD n.toNat (0,[])).2:=by
  rcases arcG_spec (g.getD n.toNat (0,[])).2 x _ (Nat.le_refl _) with ⟨q1,q2⟩ | ⟨q1,q2,q3⟩
  ·have q1:arcF (g.getD n.toNat (0,[])).2 x=-1:=q1
   refine ⟨fun _ hm=>?_,fun _=>by omega⟩
   obtain ⟨j,hj,e⟩:=List.mem_iff_getElem.1 hm
   have:=q2 j (by omega) hj
   rw [List.getD_eq_getElem?_getD,List.getElem?_eq_getElem hj] at this
   simp only [Option.getD_some] at this
   rw [e] at this
   exact this h4
  ·have q1:0≤arcF (g.getD n.toNat (0,[])).2 x:=q1
   refine ⟨fun h=>by omega,fun h=>absurd ?_ h⟩
   have q2:arcF (g.getD n.toNat (0,[])).2 x < ((g.getD n.toNat (0,[])).2.length:Int):=q2
   have hm:=mem_of_take_succ (g.getD n.toNat (0,[])).2 (0,0) (k:=(arcF (g.getD n.toNat (0,[])).2 x).toNat) (by omega)
   have q3:((g.getD n.toNat (0,[])).2.getD (arcF (g.getD n.toNat (0,[])).2 x).toNat (0,0)).1=x:=q3
   have:=huniq _ _ (hsub _ _ hm) h3 (q3.trans h4.symm)
   rw [this] at hm
   exact hm
 split
 ·rename_i hlt
  have hno:=hin.1 hlt
  have hg:∀ k,(g.set n.toNat ((g.getD n.toNat (0,[])).1,(g.getD n.toNat (0,[])).2++[A])).getD k (0,[])=if k=n.toNat then ((g.getD n.toNat (0,[])).1,(g.getD n.toNat (0,[])).2++[A]) else g.getD k (0,[]):=fun k=>getD_setK _ _ _ _ (by omega)
  refine ⟨fun k a=>?_,fun hnd k=>?_,fun k=>?_,by rw [List.length_set]⟩
  ·rw [hg]
   split
   ·rename_i e
    subst e
    simp only [List.mem_append,List.mem_singleton]
    constructor
    ·rintro (h | rfl)
     ·exact .inl h
     ·exact .inr ⟨trivial,h4,h3⟩
    ·rintro (h | ⟨-,e1,e2⟩)
     ·exact .inl h
     ·exact .inr (huniq _ _ e2 h3 (e1.trans h4.symm))
   ·rename_i e
    exact ⟨.inl,fun h=>h.elim id fun h=>absurd h.1 e⟩
  ·rw [hg]
   split
   ·rw [List.map_append,List.nodup_append]
    refine ⟨hnd _,by simp,fun y hy z hz e=>?_⟩
    obtain ⟨a,ha,rfl⟩:=List.mem_map.1 hy
    have hz:z=A.1:=by simpa using hz
    exact hno (huniq _ _ (hsub _ a ha) h3 (e.trans hz) ▸ ha)
   ·exact hnd k
  ·rw [hg]
   split
   ·rename_i e;rw [e]
   ·rfl
 ·rename_i hlt
  have hyes:A∈(g.getD n.toNat (0,[])).2:=Classical.byContradiction fun h=>hlt (hin.2 h)
  refine ⟨fun k a=>⟨.inl,fun h=>h.elim id ?_⟩,fun hnd=>hnd,fun k=>rfl,rfl⟩
  rintro ⟨rfl,e1,e2⟩
  rw [huniq _ _ e2 h3 (e1.trans h4.symm)]
  exact hyes
def OnP (f:List GNode) (p:List Int) (n:Int) (y e:Int):Prop:=∃ p1 q,p=p1++e :: q∧walkF f n p1=some y∧0≤toF (arcsAt f y) e
theorem kPath_law (hf:GoodF f) (hs:SrtF f):∀ (p:List Int) (n:Int) (g:List GNode),0≤n→n < (f.length:Int)→g.length=f.length→(∀ k,∀ a∈(g.getD k (0,[])).2,a∈(f.getD k (0,[])).2)→(∀ k,((g.getD k (0,[])).2.map (·.1)).Nodup) →
  ((kPath f p n g).length=f.length∧(∀ k,((kPath f p n g).getD k (0,[])).1=(g.getD k (0,[])).1)∧(∀ k,(((kPath f p n g).getD k (0,[])).2.map (·.1)).Nodup) ∧
   (∀ k:Nat,∀ a,a∈((kPath f p n g).getD k (0,[])).2↔(a∈(g.getD k (0,[])).2∨(a∈(f.getD k (0,[])).2∧OnP f p n (k:Int) a.1))))
 | [],n,g,n0,n1,hgl,hsub,hnd=>by
  refine ⟨hgl,fun k=>rfl,hnd,fun k a=>⟨.inl,fun h=>h.elim id ?_⟩⟩
  rintro ⟨_,p1,q,e,_⟩
  cases p1<;>cases e
 | x :: r,n,g,n0,n1,hgl,hsub,hnd=>by
  have hat:arcsAt f n=(f.getD n.toNat (0,[])).2:=rfl
  have hto:=arc_to (rows_arcs hs n.toNat) (rows_pos hf n.toNat) x
  have hun:kPath f (x :: r) n g=if arcF (f.getD n.toNat (0,[])).2 x < 0 then g else kPath f r ((f.getD n.toNat (0,[])).2.getD (arcF (f.getD n.toNat (0,[])).2 x).toNat (0,0)).2 (kRow f g n x):=rfl
  have hwk:∀ p1,walkF f n (x :: p1)=if toF (arcsAt f n) x < 0 then none else walkF f (toF (arcsAt f n) x) p1:=fun _=>rfl
  rcases hto with ⟨h1,h2⟩ | ⟨h1,h2,h3,h4,h5⟩
  ·rw [hun,if_pos h1]
   refine ⟨hgl,fun k=>rfl,hnd,fun k a=>⟨.inl,fun h=>h.elim id ?_⟩⟩
   rintro ⟨ha,p1,q,e,w,t⟩
   cases p1 with
   | nil =>
    injection e with e1 e2
    have w:some n=some (k:Int):=w
    injection w with w
    rw [← w,← e1,hat] at t
    omega
   | cons z p1 =>
    injection e with e1 e2
    subst e1
    rw [hwk,hat,if_pos h2] at w
    cases w
  ·rw [hun,if_neg (by omega),h5]
   obtain ⟨m1,m2,m3,m4⟩:=kRow_mem hf hs hgl hsub n0 n1 h1
   have hin:=arcs_in' hf (n:=n) (a:=(f.getD n.toNat (0,[])).2.getD (arcF (f.getD n.toNat (0,[])).2 x).toNat (0,0)) h3
   rw [h5] at hin
   obtain ⟨k1,k2,k3,k4⟩:=kPath_law hf hs r (toF (f.getD n.toNat (0,[])).2 x) (kRow f g n x) hin.1 hin.2 (m4.trans hgl) (fun k a ha=>((m1 k a).1 ha).elim (hsub k a) fun h=>h.2.2) (m2 hnd)
   refine ⟨k1,fun k=>(k2 k).trans (m3 k),k3,fun k a=>?_⟩
   rw [k4,m1]
   constructor
   ·rintro ((h | ⟨e1,e2,e3⟩) | ⟨ha,p1,q,e,w,t⟩)
    ·exact .inl h
    ·refine .inr ⟨e3,[],r,by rw [e2];rfl,?_,?_⟩
     ·show some n=some (k:Int)
      congr 1;omega
     ·have:(k:Int)=n:=by omega
      rw [this,hat,e2];exact h2
    ·refine .inr ⟨ha,x :: p1,q,by rw [e];rfl,?_,t⟩
     rw [hwk,hat,if_neg (by omega)]
     exact w
   ·rintro (h | ⟨ha,p1,q,e,w,t⟩)
    ·exact .inl (.inl h)
    ·cases p1 with
     | nil =>
      injection e with e1 e2
      have w:some n=some (k:Int):=w
      injection w with w
      exact .inl (.inr ⟨by omega,e1.symm,ha⟩)
     | cons z p1 =>
      injection e with e1 e2
      subst e1
      rw [hwk,hat,if_neg (by omega)] at w
      exact .inr ⟨ha,p1,q,e2,w,t⟩
theorem kRows_law (hf:GoodF f) (hs:SrtF f) (h0:0 < f.length) (ps:List (List Int)):(kRows f ps).length=f.length∧(∀ k,((kRows f ps).getD k (0,[])).1=(f.getD k (0,[])).1)∧(∀ k,(((kRows f ps).getD k (0,[])).2.map (·.1)).Nodup) ∧
  (∀ k:Nat,∀ a,a∈((kRows f ps).getD k (0,[])).2↔(a∈(f.getD k (0,[])).2∧Kp f ps (k:Int) a.1)):=by
 have key:∀ (l:List (List Int)) (g:List GNode),g.length=f.length→(∀ k,∀ a∈(g.getD k (0,[])).2,a∈(f.getD k (0,[])).2)→(∀ k,((g.getD k (0,[])).2.map (·.1)).Nodup)→(∀ k,(g.getD k (0,[])).1=(f.getD k (0,[])).1) →
   ((l.foldl (fun g p=>kPath f p 0 g) g).length=f.length∧(∀ k,((l.foldl (fun g p=>kPath f p 0 g) g).getD k (0,[])).1=(f.getD k (0,[])).1)∧(∀ k,(((l.foldl (fun g p=>kPath f p 0 g) g).getD k (0,[])).2.map (·.1)).Nodup) ∧
    (∀ k:Nat,∀ a,a∈((l.foldl (fun g p=>kPath f p 0 g) g).getD k (0,[])).2↔(a∈(g.getD k (0,[])).2∨(a∈(f.getD k (0,[])).2∧∃ p∈l,OnP f p 0 (k:Int) a.1)))):=by
  intro l
  induction l with
  | nil=>intro g h1 h2 h3 h4;exact ⟨h1,h4,h3,fun k a=>⟨.inl,fun h=>h.elim id fun ⟨_,p,hp,_⟩=>by cases hp⟩⟩
  | cons p l ih =>
   intro g h1 h2 h3 h4
   obtain ⟨k1,k2,k3,k4⟩:=kPath_law hf hs p 0 g (by omega) (by omega) h1 h2 h3
   obtain ⟨i1,i2,i3,i4⟩:=ih (kPath f p 0 g) k1 (fun k a ha=>((k4 k a).1 ha).elim (h2 k a) fun h=>h.1) k3 (fun k=>(k2 k).trans (h4 k))
   refine ⟨i1,i2,i3,fun k a=>?_⟩
   rw [List.foldl_cons,i4,k4]
   constructor
   ·rintro ((h | ⟨ha,h⟩) | ⟨ha,q,hq,h⟩)
    ·exact .inl h
    ·exact .inr ⟨ha,p,by simp,h⟩
    ·exact .inr ⟨ha,q,by simp [hq],h⟩
   ·rintro (h | ⟨ha,q,hq,h⟩)
    ·exact .inl (.inl h)
    ·rcases List.mem_cons.1 hq with rfl | hq
     ·exact .inl (.inr ⟨ha,h⟩)
     ·exact .inr ⟨ha,q,hq,h⟩
 obtain ⟨i1,i2,i3,i4⟩:=key ps (bareN f) (by simp [bareN]) (fun k a ha=>by rw [bare_get] at ha;cases ha) (fun k=>by rw [bare_get];simp) (fun k=>by rw [bare_get])
 refine ⟨i1,i2,i3,fun k a=>?_⟩
 have:=i4 k a
 rw [bare_get] at this
 simp only [List.not_mem_nil,false_or] at this
 exact this
theorem kRows_part (hf:GoodF f) (hs:SrtF f) (h0:0 < f.length) (ps:List (List Int)):sortN (kRows f ps)=partL (accK (keptF f ps)) f f.length:=by
 obtain ⟨k1,k2,k3,k4⟩:=kRows_law hf hs h0 ps
 unfold partL
 apply List.ext_getElem
 ·rw [sortN_len,k1];simp
 ·intro k h1 h2
  have hk:k < f.length:=by simpa using h2
  have e1:(sortN (kRows f ps))[k]=(sortN (kRows f ps)).getD k (0,[]):=by rw [List.getD_eq_getElem?_getD,List.getElem?_eq_getElem h1];rfl
  rw [e1,sortN_get]
  simp only [List.getElem_map,List.getElem_range]
  unfold partN
  rw [k2 k]
  congr 1
  refine pw_ext (nd_str (k3 k)) ((rows_arcs hs k).sublist List.filter_sublist) fun a=>?_
  rw [(sortedF_perm _).mem_iff,k4,List.mem_filter,accK_iff]
theorem keep_eq (hf:GoodF f) (hs:SrtF f) (h0:0 < f.length) (ps:List (List Int)):keepRF f ps=pkeepF f ps:=by
 obtain ⟨h1,h2⟩:=part_good hf hs (accK (keptF f ps))
 obtain ⟨k1,k2,k3,k4⟩:=kRows_law hf hs h0 ps
 have hp:=partL_len (accK (keptF f ps)) f f.length
 unfold keepRF rcanonF pkeepF partF
 rw [if_neg (by omega),← from_sortN k3,kRows_part hf hs h0,from_canonical h1 h2 (by omega) (by omega)]
end
end
/- Plain: the reference's canonical forms are small. -/
section
open Go
end
/- The law RestrictKeeps. -/
section
def law7S:Spec:={ ins:=[T25,T47],pre:=fun _=>True,out:=fun _=>[.p .bool true] }
attribute [local go_sem] law7S
attribute [local go_sem] canonical15S exS pkeepS keepRS equalS lightPathsS
theorem light_paths {ps:List (List Int)} (h:lightPathsF ps=true):ps.length≤100∧∀ p∈ps,p.length≤100:=by
 unfold lightPathsF at h
 rw [Bool.and_eq_true,decide_eq_true_eq] at h
 refine ⟨by omega,fun p hp=>?_⟩
 have:=List.all_eq_true.1 h.2 p hp
 rw [decide_eq_true_eq] at this
 omega
theorem law7_ok:FnOk Try.prog 6 law7S:=by
 refine fn_ok Try.func6 (by kernel_rfl) rfl Try.ntmps6 (by decide) (by kernel_rfl) (tyTab_ok [(17,canonical15S),(18,lightPathsS),(19,exS),(20,pkeepS),(21,keepRS),(13,equalS)]) (fns_cons canonical15_ok (fns_cons lightPaths_ok (fns_cons ex_ok (fns_cons pkeep_ok (fns_cons keepR_ok (fns_cons equal_ok fns_nil)))))) ?_
 rintro w0 O0 ⟨f,l,u⟩ hc - -
 simp only [law7S,entEnv]
 repeat' (first | exact trivial | refine eS rfl ?_ | refine ev_out_inv ?_ | refine rX [0,1,2,4,12] hc ?_ ?_ | (refine rC (fun hcond=>?_) (fun hcond=>?_)<;>try (cases hcond;done)))
 ·exact ev_fin hc [.tmp 4] rfl (.inl rfl) (by simp) (by first | exact eR | refine eRM ?_)
 ·obtain ⟨hc1,hc2⟩:=hcond
  obtain ⟨h1,h2,h3,_⟩:=canonical_good hc1
  obtain ⟨p1,p2⟩:=light_paths hc2
  have hk:=keep_eq h1 h2 h3 l
  have hsm:SmallF (pkeepF f l):=by
   have hg:=(part_good2 h1 h2 h3 (accK (keptF f l))).1
   exact ⟨hg.1,fun x hx=>(hg.2 x hx).1⟩
  exact ⟨⟨h1,h2,h3⟩,⟨h1,h3,p1,p2⟩,hsm,by rw [hk];exact hsm⟩
 ·obtain ⟨hc1,hc2⟩:=hcond
  obtain ⟨h1,h2,h3,_⟩:=canonical_good hc1
  rw [keep_eq h1 h2 h3,compareF_self]
  exact ev_fin hc [.tmp 4] rfl (.inl rfl) (by simp) (by first | exact eR | refine eRM ?_)
end
end Go.Proofs.Ytebfihindnhccaa.Fw
