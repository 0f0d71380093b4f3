/- Contracts of the program's and the reference's functions, and the plain laws of what they compute: N2 C24 C25 N3 C26 C27 C28 C29 N4 C30 C31 C32 C33 C34 C35 D1 D4 V4 D2 D3 V5 V6 N5 N6 R07a R15c P8 G1 G3 G2 G4 G5 G6 P1 P9 R08a P3 P4 P5 P2 P7 W1 W2 W3 W4 W5 U1. -/
/- Plain: what is placed stands in order; what is below comes behind. -/
import Derived.Test.YtebfihindnhccaaGreatYA
import Derived.Test.YtebfihindnhccaaGreatZI
import Derived.Test.YtebfihindnhccaaGreatZJ
set_option linter.unusedVariables false
set_option linter.unusedSimpArgs false
namespace Go.Proofs.YtebfihindnhccaaGreat.Fw
open Go
attribute [local irreducible] Ev
attribute [local go_sem] cx_tb entEnv List.toList_toArray evSeq evG evK vcK guardOf guardT guardB_true guardB_false step1 step0 stepQ takesIn namesParts namesOf namesStore frzAll frz frz1 fixN frzEnv frzObjs drpEnv drpObjs AV.frz AV.frzs AV.drp AV.drps AV.names AV.namess aq qmap qPick qAlloc qBox qBuild qBuildSlice qBuildSlice2 qLoad qLoadB qLoadB2 qLoadE qLoadE2 qLoadE3 qFieldI qOff qPart qField qIndexA qIndex qIndexS qNil qBin qUn qConv qMake qMake2 qSlice qExtract qLen qAppend qAppend2 qAppend3 qMin qMax qCall qCall2 qCall3 qBuiltin qCallee aloud lStoreD lStore lStoreB lStoreB2 lStoreE lStoreE3 lStoreE4 namesStore isNest asA ninT qLoadN qBuildS qNest1 qNest2 qNest3 lNin2 lNin3 lNin4 lBackS lBack2 lBack3 lJoin lJoin2 lJoin3 lNew lNew2 lNew3 AV.trn AV.trns trnEnv trnObjs Obj.trn appN2 stoN lCallee lBuiltin lAppend lAppend2 lAppend3 lAppend4 opv lk constAV optAV sliceQ bin binI binS binB boolT zf1 zfs pfs AV.cells nthOff loadB offB storeB notAg fitsT fitsO Ty.cell1 fieldOk partsT partsAg argsT asT asT1 asTs pairO srT castTo_self getF setF getP setP offP offF fldT rvAV rvObj rvAVs rvObjs resAV RV.flat Ty.flat Ty.size St.add upd del fresh Value.oneCell' refZ Ty.dflt sub_all sub_one sub_take sub_end List.take_succ_cons List.take_zero List.length_cons cast0 castS sub_app take_app sub_app1 take_app1 take_one1 natC zero_le_natC i64_min i64_max u64_min u64_max u8_min u8_max inK_i64 inK_u64 inK_u8 Option.map_some Option.map_none Option.bind_some Option.getD_some Option.getD_none Option.isNone_none Option.isNone_some Bool.and_true Bool.true_and Bool.and_false Bool.false_and Bool.not_true Bool.not_false if_true if_false List.length_cons List.length_nil and_true true_and and_self List.all_cons List.all_nil List.append_nil List.nil_append List.cons_append List.getElem?_cons_zero List.getElem?_cons_succ List.getElem?_nil List.map_cons List.map_nil List.set_cons_zero List.set_cons_succ List.isEmpty_nil List.isEmpty_cons decide_true decide_false beq_self_eq_true bne_self_eq_false Nat.zero_add Nat.add_zero Nat.sub_zero Int.toNat_natCast Int.toNat_zero Int.toNat_one List.take_length List.length_append List.length_singleton true_or or_true or_self false_or or_false Ty.agg.injEq Ty.slice.injEq Ty.prod.injEq Ty.int.injEq Option.some.injEq beq_iff_eq evM evMG evMQ opM isPick viewE viewS viewG opTs opTmp consE guardM guardM1 guardM2 sideM sideM2 pickM pickM2 sufB chEq_nil chEq_nc chEq_cn chEq_cons memB dstOf Op.operands Call.operands List.filterMap_cons List.filterMap_nil List.append_eq Bool.cond_false_right Bool.cond_true_left cond_true cond_false implies_true decide_eq_true_eq beq_true beq_false Bool.or_true Bool.or_false Bool.true_or Bool.false_or Option.isSome_some fieldV namesAg namesAgs capNs qClo qClo2 qMakeMap qMakeMap2 qMakeMap3 qLook qLook2 qLook3 qLook4 keyT keyP eqT inB lMapUp lMapUp2 lMapUp3 namesMap argEnv cm_tb List.drop_zero pruneR prune rem1 afterM addDst fgtEnv AV.fgt AV.fgts Obj.fgt restObjs handed memB calleeOf opvs matchArgs matchArg List.any_cons List.any_nil evF evFO evFQ evFK addQ frOk qs List.flatMap_cons List.flatMap_nil List.cons_append tn appN fgtEN List.take_succ_cons List.drop_succ_cons isYl parEnv rangeSt cY_tb marked_tb renOk renIn matchObjs matchEnv matchE matchAV matchAVs matchF matchO pureT
attribute [local go_sem] ty1 ty2 ty3 ty4 ty5 ty9 ty12 ty21 ty22 ty23 ty24 ty25 ty26 ty27 ty28 ty29 ty30 ty31 ty32 ty34 ty35 ty36 ty37 ty38 ty39 ty40 ty41 ty42 ty43 ty44 ty45 ty46 ty47 ty48 ty49 ty50 ty51 ty52 ty53 ty54 ty55 ty56 ty57 ty58 ty59 ty60 ty61 ty62 ty63 ty64 ty65 ty66 ty67 ty68 ty69 ty70 ty71 ty72 ty73 ty74 ty75 ty76 ty77 ty78 ty79 ty81 ty82 ty83 ty84 ty85 ty86 ty87 ty88 ty89 ty90 ty91 ty92 ty93 ty94 ty95 ty96 ty97 ty98 ty99 ty100 ty102 ty103 ty104 ty105 ty106 ty107 ty108 ty110 ty112 ty113 ty114 ty115 ty116 ty117 ty118 ty119 ty120 ty121 ty122 ty123 ty124 ty125 ty126 ty127 ty128 ty129 ty130 ty131 ty132 ty133 ty134 ty135 ty137 ty138 ty140 ty141 ty142 ty143 ty144 ty145 ty146 ty147 ty148 ty150 ty151 ty152 ty153 ty154 ty155 ty156 ty157 ty158 ty159 ty160 ty161 ty162 ty163 ty165 ty166 ty167 ty168 ty169 ty170 ty171 ty172 ty173 ty174 ty175 ty176 ty177 ty178 ty179 ty180 ty181 ty182 ty183 ty184 ty185 ty187 ty188 ty189 ty190 ty191 ty192 ty193 ty194 ty195 ty196 ty198 ty199 ty200 ty201 ty202 ty203 ty204 ty205 ty206 ty207 ty208 ty209 ty210 ty211 ty212 ty213 ty214 ty216 ty217 ty218 ty219 ty220 ty221 ty222 ty223 ty224 ty225 ty226 ty227 ty228 ty229 ty230 ty231 ty232 ty233 ty234 ty235 ty236 ty237 ty239 ty240 ty241 ty242 ty243 ty244 ty245 ty246 ty247 ty248 ty249 ty250 ty251 ty252 ty253 ty254 ty255 ty256 ty257 ty258 ty259 ty260 ty262 ty263 ty264 ty265 ty266 ty267 ty268 ty269 ty270 ty271 ty272 ty273 ty274 ty275 ty276 ty277 ty283 ty286 ty287
set_option maxRecDepth 100000
set_option maxHeartbeats 4000000
section
theorem dfind_congr (d:List DeclD) {s t:ByteArray} (h:strEq s t=true):dfindF d s=dfindF d t:=by
 have key:∀ (l:List DeclD) (k:Nat),dfindG s k l=dfindG t k l:=by
  intro l
  induction l with
  | nil=>intro k;rfl
  | cons x l ih =>
   intro k
   simp only [dfindG]
   have:strEq x.1 s=strEq x.1 t:=by
    cases h1:strEq x.1 s with
    | true=>exact (strEq_trans h1 h).symm
    | false =>
     cases h2:strEq x.1 t with
     | false=>rfl
     | true=>rw [strEq_trans h2 (strEq_symm h)] at h1;cases h1
   rw [this,ih]
 exact key d 0
theorem getD_mem {α:Type} {l:List α} {d:α} {k:Nat} (h:k < l.length):l.getD k d∈l:=by
 rw [List.getD_eq_getElem?_getD,List.getElem?_eq_getElem h]
 exact List.getElem_mem h
theorem mem_getD {α:Type} {l:List α} (d:α) {x:α} (h:x∈l):∃ k,k < l.length∧l.getD k d=x:=by
 obtain ⟨k,hk,e⟩:=List.mem_iff_getElem.1 h
 exact ⟨k,hk,by rw [List.getD_eq_getElem?_getD,List.getElem?_eq_getElem hk];exact e⟩
theorem namesG_zero {d:List DeclD}:∀ {r:List DeclD} {k:Nat},namesG d k r=0→∀ j,j < r.length→¬ dfindF d (r.getD j d0).1 < ((k + j:Nat):Int)∧namedF (r.getD j d0).1 false=true
 | [],_,_,j,hj=>by simp at hj
 | x :: r,k,h,j,hj=>by
  simp only [namesG] at h
  split at h
  ·cases h
  ·rename_i h1
   split at h
   ·cases h
   ·rename_i h2
    cases j with
    | zero=>exact ⟨h2,by simpa using h1⟩
    | succ j =>
     have:=namesG_zero h j (by simpa using hj)
     have e:k + (j + 1)=k + 1 + j:=by omega
     rw [e]
     exact this
theorem dfindG_first (s:ByteArray):∀ (l:List DeclD) (k j:Nat),j < l.length→strEq (l.getD j d0).1 s=true→dfindG s k l≤((k + j:Nat):Int)
 | [],_,j,h,_=>by simp at h
 | x :: l,k,j,h,e=>by
  simp only [dfindG]
  split
  ·omega
  ·rename_i h1
   cases j with
   | zero=>exact absurd e h1
   | succ j =>
    have:=dfindG_first s l (k + 1) j (by simpa using h) e
    omega
theorem dfind_at {d:List DeclD} (h:namesF d=0) {j:Nat} (hj:j < d.length):dfindF d (d.getD j d0).1=(j:Int):=by
 have h1:=(namesG_zero h j hj).1
 have h2:=dfindG_first (d.getD j d0).1 d 0 j hj (strEq_refl _)
 rw [Nat.zero_add] at h1 h2
 have h2:dfindF d (d.getD j d0).1≤(j:Int):=h2
 omega
theorem decl_inj {d:List DeclD} (h:namesF d=0) {x y:DeclD} (hx:x∈d) (hy:y∈d) (e:strEq x.1 y.1=true):x=y:=by
 obtain ⟨i,hi,rfl⟩:=mem_getD d0 hx
 obtain ⟨j,hj,rfl⟩:=mem_getD d0 hy
 have h1:=dfind_at h hi
 have h2:=dfind_at h hj
 rw [dfind_congr d e,h2] at h1
 have:i=j:=by omega
 rw [this]
theorem pick_spec2 (d:List DeclD) (out:List ByteArray) (h:(pickF d out).1=true):∃ x∈d,x.1=(pickF d out).2∧amongF out x.1=false∧readyF x out=true:=by
 have key:∀ (l:List DeclD) (s:Bool×ByteArray),(∀ x∈l,x∈d)→(s.1=true→∃ x∈d,x.1=s.2∧amongF out x.1=false∧readyF x out=true)→(l.foldl (pickS out) s).1=true →
   ∃ x∈d,x.1=(l.foldl (pickS out) s).2∧amongF out x.1=false∧readyF x out=true:=by
  intro l
  induction l with
  | nil=>intro s _ hs h;exact hs h
  | cons y l ih =>
   intro s hl hs h
   rw [List.foldl_cons] at h ⊢
   refine ih _ (fun x hx=>hl x (by simp [hx])) (fun hp=>?_) h
   unfold pickS at hp ⊢
   split
   ·rename_i hc
    rw [if_pos hc] at hp
    exact hs hp
   ·rename_i hc
    simp only
    have hc:amongF out y.1=false∧readyF y out=true:=by simpa using hc
    split
    ·exact ⟨y,hl y (by simp),rfl,hc⟩
    ·rename_i hc2
     have:s.1=true:=by
      cases hh:s.1 with
      | true=>rfl
      | false=>rw [hh] at hc2;simp at hc2
     exact hs this
 exact key d _ (fun _ h=>h) (fun h=>by cases h) h
def PL (d:List DeclD) (o:List ByteArray):Prop:=∀ j,j < o.length→∃ x∈d,x.1=o.getD j ByteArray.empty∧amongF (o.take j) x.1=false∧readyF x (o.take j)=true
theorem PL.snoc {d:List DeclD} {o:List ByteArray} (h:PL d o) {x:DeclD} (hx:x∈d) (h1:amongF o x.1=false) (h2:readyF x o=true):PL d (o++[x.1]):=by
 intro j hj
 by_cases hjo:j < o.length
 ·obtain ⟨y,hy,e1,e2,e3⟩:=h j hjo
  refine ⟨y,hy,?_,?_,?_⟩
  ·rw [e1];simp [List.getD_eq_getElem?_getD,List.getElem?_append,hjo]
  ·rw [List.take_append_of_le_length (by omega)];exact e2
  ·rw [List.take_append_of_le_length (by omega)];exact e3
 ·have hj2:j=o.length:=by simp at hj;omega
  subst hj2
  refine ⟨x,hx,?_,?_,?_⟩
  ·simp [List.getD_eq_getElem?_getD]
  ·rw [List.take_append_of_le_length (by omega),List.take_length];exact h1
  ·rw [List.take_append_of_le_length (by omega),List.take_length];exact h2
theorem placedG_PL {d:List DeclD}:∀ {n:Nat} {o:List ByteArray},PL d o→PL d (placedG d n o)
 | 0,_,h=>h
 | n + 1,o,h=>by
  unfold placedG
  split
  ·rename_i hp
   obtain ⟨x,hx,e,h1,h2⟩:=pick_spec2 d o hp
   rw [← e]
   exact placedG_PL (h.snoc hx h1 h2)
  ·exact h
theorem placed_PL (d:List DeclD):PL d (placedF d):=placedG_PL fun j hj=>by simp at hj
theorem PL.ok {d:List DeclD} {o:List ByteArray} (h:PL d o):AOk d o:=by
 refine ⟨fun s hs=>?_,?_⟩
 ·obtain ⟨j,hj,rfl⟩:=mem_getD ByteArray.empty hs
  obtain ⟨x,hx,e,-⟩:=h j hj
  rw [← e]
  exact dfind_self hx
 ·rw [List.pairwise_iff_getElem]
  intro i j hi hj hij
  obtain ⟨x,hx,e,h1,-⟩:=h j hj
  have h2:=amongF_false h1 o[i] (by rw [List.mem_take_iff_getElem];exact ⟨i,by omega,rfl⟩)
  rw [e] at h2
  rw [List.getD_eq_getElem?_getD,List.getElem?_eq_getElem hj] at h2
  exact h2
theorem nodup_full {n:Nat} {l:List Nat} (h:l.Nodup) (hl:∀ j∈l,j < n) (hn:n≤l.length) {k:Nat} (hk:k < n):k∈l:=by
 refine Classical.byContradiction fun hc=>?_
 have:=nodup_len n (k :: l) (List.nodup_cons.2 ⟨hc,h⟩) (fun j hj=>by
  rcases List.mem_cons.1 hj with rfl | hj
  ·exact hk
  ·exact hl j hj)
 simp at this
 omega
theorem placed_all {d:List DeclD} (hl:d.length≤(placedF d).length) {x:DeclD} (hx:x∈d):∃ s∈placedF d,strEq s x.1=true:=by
 have hA:=(placed_PL d).ok
 have h1:=pw_map_nodup d hA
 have h0:=dfind_self hx
 have hd:=dfindF_spec d x.1
 have h2:=nodup_full (n:=d.length) h1 (fun j hj=>by
  obtain ⟨s,hs,rfl⟩:=List.mem_map.1 hj
  have h1:=hA.decl s hs
  rcases dfindF_spec d s with g | ⟨_,g,_⟩<;>omega) (by simpa using hl) (k:=(dfindF d x.1).toNat) (by omega)
 obtain ⟨s,hs,e⟩:=List.mem_map.1 h2
 refine ⟨s,hs,?_⟩
 rcases dfindF_spec d s with g | ⟨_,_,g1⟩
 ·have:=hA.decl s hs;omega
 ·rcases hd with g | ⟨_,_,g2⟩
  ·omega
  ·rw [e] at g1
   exact strEq_trans (strEq_symm g1) g2
def rankF (d:List DeclD) (s:ByteArray):Nat:=(placedF d).findIdx fun x=>strEq x s
theorem rank_congr (d:List DeclD) {s t:ByteArray} (h:strEq s t=true):rankF d s=rankF d t:=by
 unfold rankF
 congr 1
 funext x
 cases h1:strEq x s with
 | true=>exact (strEq_trans h1 h).symm
 | false =>
  cases h2:strEq x t with
  | false=>rfl
  | true=>rw [strEq_trans h2 (strEq_symm h)] at h1;cases h1
theorem rank_super {d:List DeclD} (hn:namesF d=0) (hl:d.length≤(placedF d).length) {x:DeclD} (hx:x∈d) {s:ByteArray} (hs:amongF x.2.1 s=true):rankF d s < rankF d x.1:=by
 obtain ⟨t,ht,e⟩:=placed_all hl hx
 have hlt:rankF d x.1 < (placedF d).length:=List.findIdx_lt_length_of_exists ⟨t,ht,e⟩
 have heq:strEq ((placedF d)[rankF d x.1]) x.1=true:=List.findIdx_getElem (w:=hlt)
 obtain ⟨y,hy,e1,-,h3⟩:=placed_PL d (rankF d x.1) hlt
 rw [List.getD_eq_getElem?_getD,List.getElem?_eq_getElem hlt] at e1
 have e1:y.1=(placedF d)[rankF d x.1]:=e1
 rw [← e1] at heq
 have hyx:=decl_inj hn hy hx heq
 subst hyx
 obtain ⟨u,hu,eu⟩:=List.any_eq_true.1 hs
 have h4:amongF ((placedF d).take (rankF d y.1)) u=true:=List.all_eq_true.1 h3 u hu
 obtain ⟨v,hv,ev⟩:=List.any_eq_true.1 h4
 rw [List.mem_take_iff_getElem] at hv
 obtain ⟨i,hi,rfl⟩:=hv
 have hi2:i < rankF d y.1:=by omega
 refine Nat.lt_of_le_of_lt ?_ hi2
 refine Classical.byContradiction fun hc=>?_
 have h5:=List.not_of_lt_findIdx (p:=fun x=>strEq x s) (xs:=placedF d) (i:=i) (by unfold rankF at hc;omega)
 have h6:strEq ((placedF d)[i]) s=true:=strEq_trans ev eu
 try simp only at h5
 rw [h6] at h5
 exact absurd h5 (by simp)
def BelI (d:List DeclD) (s x:ByteArray):Prop:=strEq s x=true∨rankF d s < rankF d x
theorem addB_BelI {d:List DeclD} (hn:namesF d=0) (hl:d.length≤(placedF d).length) {s c:ByteArray} (hc:BelI d s c) {o:List ByteArray} (ho:∀ x∈o,BelI d s x) {x:DeclD} (hx:x∈d):∀ y∈addB c o x,BelI d s y:=by
 intro y hy
 unfold addB at hy
 split at hy
 ·rename_i h
  rw [Bool.and_eq_true] at h
  rcases List.mem_append.1 hy with hy | hy
  ·exact ho y hy
  ·have:y=x.1:=by simpa using hy
   subst this
   have h1:=rank_super hn hl hx h.1
   right
   rcases hc with hc | hc
   ·rw [rank_congr d hc];exact h1
   ·omega
 ·exact ho y hy
theorem addBs_BelI {d:List DeclD} (hn:namesF d=0) (hl:d.length≤(placedF d).length) {s c:ByteArray} (hc:BelI d s c):∀ {l:List DeclD} {o:List ByteArray},(∀ x∈l,x∈d)→(∀ x∈o,BelI d s x)→∀ y∈l.foldl (addB c) o,BelI d s y
 | [],_,_,ho=>ho
 | x :: l,o,hx,ho=>by
  rw [List.foldl_cons]
  exact addBs_BelI hn hl hc (fun y hy=>hx y (by simp [hy])) (addB_BelI hn hl hc ho (hx x (by simp)))
theorem belowG_BelI {d:List DeclD} (hn:namesF d=0) (hl:d.length≤(placedF d).length) {s:ByteArray}:∀ {n i:Nat} {o:List ByteArray},(∀ x∈o,BelI d s x)→∀ y∈belowG d n i o,BelI d s y
 | 0,_,_,ho=>ho
 | n + 1,i,o,ho=>by
  unfold belowG
  split
  ·rename_i hi
   exact belowG_BelI hn hl (addBs_BelI hn hl (ho _ (getD_mem hi)) (fun _ h=>h) ho)
  ·exact ho
theorem addB_sub {c:ByteArray} {o:List ByteArray} {x:DeclD} {y:ByteArray} (h:y∈o):y∈addB c o x:=by
 unfold addB
 split
 ·exact List.mem_append.2 (.inl h)
 ·exact h
theorem addBs_sub {c:ByteArray} {y:ByteArray}:∀ {l:List DeclD} {o:List ByteArray},y∈o→y∈l.foldl (addB c) o
 | [],_,h=>h
 | x :: l,o,h=>by rw [List.foldl_cons];exact addBs_sub (addB_sub h)
theorem belowG_sub {d:List DeclD} {y:ByteArray}:∀ {n i:Nat} {o:List ByteArray},y∈o→y∈belowG d n i o
 | 0,_,_,h=>h
 | n + 1,i,o,h=>by
  unfold belowG
  split
  ·exact belowG_sub (addBs_sub h)
  ·exact h
theorem putF_mem {l:List ByteArray} {s x:ByteArray} (h:x∈putF l s):x∈l∨x=s:=by
  unfold putF at h
  split at h
  · exact .inl h
  · simp only [List.mem_append,List.mem_cons,List.mem_singleton] at h
    rcases h with h | h
    · first
        | exact .inl (List.mem_of_mem_take h)
        | (rcases h with h | h
           · exact .inl (List.mem_of_mem_take h)
           · exact .inr (by simpa using h))
    · first
        | exact .inl (List.mem_of_mem_drop h)
        | (rcases h with h | h
           · exact .inr h
           · exact .inl (List.mem_of_mem_drop h))
theorem putF_keep {l:List ByteArray} {s x:ByteArray} (h:x∈l):x∈putF l s:=by
 unfold putF
 split
 ·exact h
 ·have h2:x∈l.take (atF l s)∨x∈l.drop (atF l s):=List.mem_append.1 (by rw [List.take_append_drop];exact h)
  simp only [List.mem_append,List.mem_cons,List.mem_singleton]
  rcases h2 with h2 | h2<;>simp [h2]
theorem putF_new {l:List ByteArray} {s:ByteArray}:amongF (putF l s) s=true:=by
  unfold putF
  split
  · rename_i h
    first
      | exact any_of_get2 l ByteArray.empty _ h.1 h.2
      | (have h : atF l s < l.length ∧ strEq (l.getD (atF l s) ByteArray.empty) s = true := by simpa using h
         exact any_of_get2 l ByteArray.empty _ h.1 h.2)
  · unfold amongF
    rw [List.any_eq_true]
    exact ⟨s,by simp,strEq_refl s⟩
theorem among_mem {l:List ByteArray} {s:ByteArray} (h:s∈l):amongF l s=true:=List.any_eq_true.2 ⟨s,h,strEq_refl s⟩
theorem among_sub {l m:List ByteArray} {s:ByteArray} (hs:∀ x∈l,x∈m) (h:amongF l s=true):amongF m s=true:=by
 obtain ⟨x,hx,e⟩:=List.any_eq_true.1 h
 exact List.any_eq_true.2 ⟨x,hs x hx,e⟩
theorem puts_mem:∀ {l o:List ByteArray} {x:ByteArray},x∈l.foldl putF o→x∈o∨x∈l
 | [],_,_,h=>.inl h
 | y :: l,o,x,h=>by
  rw [List.foldl_cons] at h
  rcases puts_mem h with h | h
  ·rcases putF_mem h with h | h
   ·exact .inl h
   ·exact .inr (by simp [h])
  ·exact .inr (by simp [h])
theorem puts_keep:∀ {l o:List ByteArray} {x:ByteArray},x∈o→x∈l.foldl putF o
 | [],_,_,h=>h
 | y :: l,o,x,h=>by rw [List.foldl_cons];exact puts_keep (putF_keep h)
theorem puts_new:∀ {l o:List ByteArray} {x:ByteArray},x∈l→amongF (l.foldl putF o) x=true
 | [],_,_,h=>by cases h
 | y :: l,o,x,h=>by
  rw [List.foldl_cons]
  rcases List.mem_cons.1 h with rfl | h
  ·exact among_sub (fun z hz=>puts_keep hz) (putF_new (l:=o) (s:=x))
  ·exact puts_new h
theorem below_self {d:List DeclD} {s:ByteArray} (h:0≤dfindF d s):amongF (belowF d s) s=true:=by
 unfold belowF
 rw [if_neg (by omega)]
 exact puts_new (belowG_sub (by simp))
theorem below_BelI {d:List DeclD} (hn:namesF d=0) (hl:d.length≤(placedF d).length) {s x:ByteArray} (h:amongF (belowF d s) x=true):BelI d s x:=by
 obtain ⟨y,hy,e⟩:=List.any_eq_true.1 h
 have hb:BelI d s y:=by
  unfold belowF at hy
  split at hy
  ·cases hy
  ·rcases puts_mem hy with hy | hy
   ·cases hy
   ·refine belowG_BelI hn hl (fun z hz=>?_) y hy
    have:z=s:=by simpa using hz
    rw [this]
    exact .inl (strEq_refl s)
 rcases hb with hb | hb
 ·exact .inl (strEq_trans hb e)
 ·rw [rank_congr d e] at hb
  exact .inr hb
theorem namesL_mem {d:List DeclD} {s:ByteArray} (h:s∈namesL d):∃ x∈d,x.1=s:=by
 have key:∀ (l:List DeclD) (o:List ByteArray),s∈l.foldl (fun o x=>putF o x.1) o→s∈o∨∃ x∈l,x.1=s:=by
  intro l
  induction l with
  | nil=>intro o h;exact .inl h
  | cons x l ih =>
   intro o h
   rw [List.foldl_cons] at h
   rcases ih _ h with h | ⟨y,hy,e⟩
   ·rcases putF_mem h with h | h
    ·exact .inl h
    ·exact .inr ⟨x,by simp,h.symm⟩
   ·exact .inr ⟨y,by simp [hy],e⟩
 rcases key d [] h with h | h
 ·cases h
 ·exact h
theorem namesL_has {d:List DeclD} {x:DeclD} (h:x∈d):amongF (namesL d) x.1=true:=by
 have keep:∀ (l:List DeclD) (o:List ByteArray),∀ y∈o,y∈l.foldl (fun o x=>putF o x.1) o:=by
  intro l
  induction l with
  | nil=>intro o y h;exact h
  | cons x l ih=>intro o y h;rw [List.foldl_cons];exact ih _ y (putF_keep h)
 have key:∀ (l:List DeclD) (o:List ByteArray),x∈l→amongF (l.foldl (fun o x=>putF o x.1) o) x.1=true:=by
  intro l
  induction l with
  | nil=>intro o h;cases h
  | cons y l ih =>
   intro o h
   rw [List.foldl_cons]
   rcases List.mem_cons.1 h with rfl | h
   ·exact among_sub (keep l _) (putF_new (l:=o) (s:=x.1))
   ·exact ih _ h
 exact key d [] h
theorem code_inj {d:List DeclD} (hn:namesF d=0) (hl:d.length≤(placedF d).length) (h2:d.length≤256) {i j:Nat} (hi:i < (namesL d).length) (hj:j < (namesL d).length)
  (h:equalBF (codeF d (namesL d) ((namesL d).getD i ByteArray.empty)) (codeF d (namesL d) ((namesL d).getD j ByteArray.empty))=true):strEq ((namesL d).getD i ByteArray.empty) ((namesL d).getD j ByteArray.empty)=true:=by
 have hnl:=namesL_len d d.length
 rw [List.take_length] at hnl
 have hal:(namesL d).length≤4096:=by omega
 generalize hs:(namesL d).getD i ByteArray.empty=s at *
 generalize ht:(namesL d).getD j ByteArray.empty=t at *
 have hsd:0≤dfindF d s:=by
  obtain ⟨x,hx,e⟩:=namesL_mem (s:=s) (by rw [← hs];exact getD_mem hi)
  rw [← e];exact dfind_self hx
 have htd:0≤dfindF d t:=by
  obtain ⟨x,hx,e⟩:=namesL_mem (s:=t) (by rw [← ht];exact getD_mem hj)
  rw [← e];exact dfind_self hx
 obtain ⟨c1,w1,-⟩:=code_bit (d:=d) hal s i
 obtain ⟨c2,w2,-⟩:=code_bit (d:=d) hal t i
 obtain ⟨c3,-,-⟩:=code_bit (d:=d) hal s j
 obtain ⟨c4,-,-⟩:=code_bit (d:=d) hal t j
 unfold equalBF at h
 rw [Bool.and_eq_true] at h
 have b1:=below_BelI hn hl (c2.1 (subset_bits w1 w2 h.1 (c1.2 ⟨hi,by rw [hs];exact below_self hsd⟩))).2
 have b2:=below_BelI hn hl (c3.1 (subset_bits w2 w1 h.2 (c4.2 ⟨hj,by rw [ht];exact below_self htd⟩))).2
 rw [hs] at b1
 rw [ht] at b2
 rcases b1 with b1 | b1
 ·exact strEq_symm b1
 ·rcases b2 with b2 | b2
  ·exact b2
  ·omega
end
/- Functions of grammarlabref04: name. -/
section
attribute [local go_sem] equalBS hasS maximalS cs0 cs1
def nmG (d:List DeclD) (all:List ByteArray) (codes:List (List Int)) (b:List Int):Nat→Nat→List ByteArray→ByteArray ⊕ List ByteArray
 | 0,_,l=>.inr l
 | n + 1,i,l=>if equalBF (codes.getD i []) b=true then .inl (all.getD i ByteArray.empty) else nmG d all codes b n (i + 1) (if hasF b (i:Int)=true then l++[all.getD i ByteArray.empty] else l)
def joinA (l:List ByteArray) (s:ByteArray) (i:Nat):ByteArray:=(if 0 < (i:Int) then s++ByteArray.mk #[38] else s)++l.getD i ByteArray.empty
def joinF (l:List ByteArray):ByteArray:=(List.range l.length).foldl (joinA l) ByteArray.empty
def nameF (d:List DeclD) (all:List ByteArray) (codes:List (List Int)) (b:List Int):ByteArray :=
 match nmG d all codes b all.length 0 [] with
 | .inl s=>s
 | .inr l=>joinF (maximalF d l)
theorem declaredF_mem {d:List DeclD} {x:ByteArray}:∀ {l o:List ByteArray},x∈l.foldl (declA d) o→x∈o∨x∈l
 | [],_,h=>.inl h
 | y :: l,o,h=>by
  rw [List.foldl_cons] at h
  rcases declaredF_mem h with h | h
  ·unfold declA at h
   split at h
   ·rcases putF_mem h with h | h
    ·exact .inl h
    ·exact .inr (by simp [h])
   ·exact .inl h
  ·exact .inr (by simp [h])
theorem maximalF_mem {d:List DeclD} {l:List ByteArray} {x:ByteArray} (h:x∈maximalF d l):x∈l:=by
 unfold maximalF maxG at h
 obtain ⟨i,hi,rfl⟩:=List.mem_map.1 h
 rw [List.mem_filter,List.mem_range] at hi
 rcases declaredF_mem (getD_mem (d:=ByteArray.empty) hi.1) with h | h
 ·cases h
 ·exact h
theorem maximalF_len (d:List DeclD) (l:List ByteArray):(maximalF d l).length≤l.length:=Nat.le_trans (maxG_len _ _ _) (declaredF_len d l)
theorem size32 {l:List ByteArray} (h:∀ s∈l,s.size≤32) (k:Nat):(l.getD k ByteArray.empty).size≤32:=by
 rw [List.getD_eq_getElem?_getD]
 cases hh:l[k]? with
 | none=>simp
 | some x=>exact h x (List.mem_of_getElem? hh)
def joinG (l:List ByteArray) (n:Nat):ByteArray:=(List.range n).foldl (joinA l) ByteArray.empty
theorem joinG_succ (l:List ByteArray) (n:Nat):joinG l (n + 1)=joinA l (joinG l n) n:=by
 unfold joinG
 rw [List.range_succ,List.foldl_append]
 rfl
theorem joinG_size {l:List ByteArray} (h:∀ s∈l,s.size≤32):∀ n,(joinG l n).size≤33 * n
 | 0=>by simp [joinG]
 | n + 1=>by
  have h1:=joinG_size h n
  have h2:=size32 h n
  rw [joinG_succ]
  unfold joinA
  split
  ·rw [ByteArray.size_append,ByteArray.size_append]
   have:(ByteArray.mk #[38]).size=1:=rfl
   omega
  ·rw [ByteArray.size_append]
   omega
def nameOfS:Spec:={ ins:=[T22,T151,T191,T142],pre:=fun (d,all,codes,b,_)=>SupOk d∧List.length d≤256∧List.length all≤256∧List.length codes=List.length all∧(∀ s∈(all:List ByteArray),s.size≤32)∧(∀ x∈(codes:List (List Int)),x.length≤64)∧List.length b≤64,out:=fun (d,all,codes,b,_)=>[.p T9 (nameF d all codes b)] }
theorem nameOf_ok:FnOk Tryz.prog 137 nameOfS:=by
 refine fn_ok Tryz.func137 (by kernel_rfl) rfl Tryz.ntmps137 (by decide) (by kernel_rfl) (tyTab_ok [(186,equalBS),(187,hasS),(188,maximalS)]) (fns_cons equalB_ok (fns_cons has_ok (fns_cons maximal_ok fns_nil))) ?_
 rintro w0 O0 ⟨d,all,codes,b,u⟩ hc - ⟨hs,hd,hall,hcd,hsz,hcw,hb⟩
 have hall:all.length≤256:=hall
 have hcd:codes.length=all.length:=hcd
 simp only [nameOfS,entEnv]
 repeat' (first | exact trivial | refine eS rfl ?_ | refine ev_out_inv ?_ | refine rX [0,1,2,3,8,9,10,11,12,16,24,31,45,49] hc ?_ ?_ | (refine rC (fun hcond=>?_) (fun hcond=>?_)<;>try (cases hcond;done)))
 refine ev_loop (ι:={x:Nat×List ByteArray // x.1≤all.length∧x.2.length≤x.1∧(∀ s∈x.2,s.size≤32)∧nmG d all codes b (all.length - x.1) x.1 x.2=nmG d all codes b all.length 0 []}) (fun x=>⟨[(0,.p T22 d),(1,.p T151 all),(2,.p T191 codes),(3,.p T142 b),(9,.sr 38 T9 0 x.1.2.length),(10,.p (.int .i64) (x.1.1:Int))],[(38,.arr 9 T9 x.1.2)]⟩) (fun x=>all.length - x.1.1) ⟨(0,[]),by simp,by simp,by simp,rfl⟩ (ent_match [(38,.nil)] rfl rfl ?_ ?_) (fun x=>?_)
 ·first | exact eN | refine eM ?_
 ·first | exact eN | refine eM ?_
 ·obtain ⟨⟨i,l⟩,hi,hli,hls,hg⟩:=x
  simp only at hi hli hls hg
  have hstep:i < all.length→nmG d all codes b (all.length - i) i l=if equalBF (codes.getD i []) b=true then .inl (all.getD i ByteArray.empty) else nmG d all codes b (all.length - (i + 1)) (i + 1) (if hasF b (i:Int)=true then l++[all.getD i ByteArray.empty] else l):=by
   intro h
   rw [show all.length - i=(all.length - (i + 1)) + 1 by omega]
   rfl
  simp only
  repeat' (first | exact trivial | refine eS rfl ?_ | refine ev_out_inv ?_ | refine rX [0,1,2,3,8,9,10,11,12,16,24,31,45,49] hc ?_ ?_ | (refine rC (fun hcond=>?_) (fun hcond=>?_)<;>try (cases hcond;done)))
  ·exact ⟨by rw [hcd];exact hcond,Nat.le_trans (wid_getD hcw i) (by decide),Nat.le_trans hb (by decide)⟩
  ·assumption
  ·have hi2:i < all.length:=by exact eV
   have hr:nameF d all codes b=all.getD i ByteArray.empty:=by
    unfold nameF
    rw [← hg,hstep hi2,if_pos hcond]
   exact ev_fin hc [.tmp 8] rfl (.inl rfl) (by simp) (by rw [hr];first | exact eR | refine eRM ?_)
  ·have hi2:i < all.length:=by exact eV
   exact ⟨Int.ofNat_lt.2 hi2,by simp only [maxN];omega⟩
  ·exact eV
  ·have hi2:i < all.length:=by exact eV
   have hn:=hstep hi2
   rw [if_neg (by rw [‹equalBF _ _=false›];simp),if_pos hcond] at hn
   refine ⟨⟨(i + 1,l++[all.getD i ByteArray.empty]),by simp only;omega,by simp only [List.length_append,List.length_singleton];omega,?_,hn.symm.trans hg⟩,by simp only;omega,ent_match [(38,.nm 38)] rfl rfl ?_ ?_⟩
   ·intro s hs
    rcases List.mem_append.1 hs with hs | hs
    ·exact hls s hs
    ·have:s=all.getD i ByteArray.empty:=by simpa using hs
     rw [this]
     exact size32 hsz i
   ·first | exact eN | refine eM ?_
   ·first | exact eN | refine eM ?_
  ·exact eV
  ·have hi2:i < all.length:=by exact eV
   have hn:=hstep hi2
   rw [if_neg (by rw [‹equalBF _ _=false›];simp),if_neg (by rw [hcond];simp)] at hn
   refine ⟨⟨(i + 1,l),by simp only;omega,by simp only;omega,hls,hn.symm.trans hg⟩,by simp only;omega,ent_match [(38,.nm 38)] rfl rfl ?_ ?_⟩
   ·first | exact eN | refine eM ?_
   ·first | exact eN | refine eM ?_
  ·have hr:nameF d all codes b=joinF (maximalF d l):=by
    unfold nameF
    rw [← hg]
    have:all.length - i=0:=by exact eV
    rw [this]
    rfl
   refine frzE [38] ?_
   repeat' (first | exact trivial | refine eS rfl ?_ | refine ev_out_inv ?_ | refine rX [0,1,2,3,8,9,10,11,12,16,24,31,45,49] hc ?_ ?_ | (refine rC (fun hcond=>?_) (fun hcond=>?_)<;>try (cases hcond;done)))
   ·exact ⟨hs,hd,by omega⟩
   ·have hmm:∀ s∈maximalF d l,s.size≤32:=fun s h=>hls s (maximalF_mem h)
    have hml:=maximalF_len d l
    have hjf:joinF (maximalF d l)=joinG (maximalF d l) (maximalF d l).length:=rfl
    rw [hjf] at hr
    generalize maximalF d l=m at *
    refine ev_loop (ι:={k:Nat // k≤m.length}) (fun k=>⟨[(9,.p T151 m),(11,.p T9 (joinG m k.1)),(12,.p (.int .i64) (k.1:Int))],[]⟩) (fun k=>m.length - k.1) ⟨0,Nat.zero_le _⟩ (ent_match [] rfl rfl ?_ ?_) (fun k=>?_)
    ·first | exact eN | refine eM ?_
    ·first | exact eN | refine eM ?_
     rfl
    ·obtain ⟨k,hk⟩:=k
     have hk:k≤m.length:=hk
     have hjs:=joinG_size hmm k
     have hss:=joinG_succ m k
     have hs2:=size32 hmm k
     unfold joinA at hss
     simp only
     repeat' (first | exact trivial | refine eS rfl ?_ | refine ev_out_inv ?_ | refine rX [0,1,2,3,8,9,10,11,12,16,24,31,45,49] hc ?_ ?_ | (refine rC (fun hcond=>?_) (fun hcond=>?_)<;>try (cases hcond;done)))
     ·have h1:(ByteArray.mk #[38]).size=1:=rfl
      rw [h1]
      simp only [maxN]
      exact eV
     ·refine ⟨by assumption,?_⟩
      have h1:(ByteArray.mk #[38]).size=1:=rfl
      rw [ByteArray.size_append,h1]
      simp only [maxN]
      exact eV
     ·exact eV
     ·have hk2:k < m.length:=by exact eV
      rw [if_pos hcond] at hss
      refine ⟨⟨k + 1,hk2⟩,by simp only;omega,ent_match [] rfl rfl ?_ ?_⟩
      ·first | exact eN | refine eM ?_
      ·simp only [hss]
       first | exact eN | refine eM ?_
     ·refine ⟨by assumption,?_⟩
      simp only [maxN]
      exact eV
     ·exact eV
     ·have hk2:k < m.length:=by exact eV
      rw [if_neg (Int.not_lt.2 hcond)] at hss
      refine ⟨⟨k + 1,hk2⟩,by simp only;omega,ent_match [] rfl rfl ?_ ?_⟩
      ·first | exact eN | refine eM ?_
      ·simp only [hss]
       first | exact eN | refine eM ?_
     ·have hk2:k=m.length:=by exact eV
      rw [← hk2] at hr
      exact ev_fin hc [.tmp 8] rfl (.inl rfl) (by simp) (by rw [hr];first | exact eR | refine eRM ?_)
end
/- Functions of grammarlabref04: Codes. -/
section
attribute [local go_sem] check3S namesLS codeS familyS nameOfS beforeS
def insAt (x:CodedD) (out:List CodedD):Nat→Nat
 | 0=>0
 | n + 1=>if beforeF x (out.getD n c0)=true then insAt x out n else n + 1
def insC (out:List CodedD) (x:CodedD):List CodedD:=out.take (insAt x out out.length)++[x]++out.drop (insAt x out out.length)
def codesL (d:List DeclD):List (List Int):=(namesL d).map fun s=>codeF d (namesL d) s
def codedB (d:List DeclD) (all:List ByteArray) (codes:List (List Int)) (out:List CodedD) (b:List Int):List CodedD:=insC out (nameF d all codes b,b)
def codedA (d:List DeclD):List CodedD→List Int→List CodedD:=codedB d (namesL d) (codesL d)
theorem codedB_len (d:List DeclD) (all:List ByteArray) (codes:List (List Int)):∀ (l:List (List Int)) (o:List CodedD),(l.foldl (codedB d all codes) o).length=o.length + l.length
 | [],o=>by simp
 | b :: l,o=>by
  rw [List.foldl_cons,codedB_len d all codes l]
  unfold codedB insC
  simp only [List.length_append,List.length_take,List.length_drop,List.length_cons,List.length_nil]
  omega
theorem codedB_wid {d:List DeclD} {all:List ByteArray} {codes:List (List Int)}:∀ {l:List (List Int)} {o:List CodedD},(∀ c∈l,c.length≤64)→(∀ y∈o,y.2.length≤64)→∀ y∈l.foldl (codedB d all codes) o,y.2.length≤64
 | [],_,_,ho=>ho
 | b :: l,o,hl,ho=>by
  rw [List.foldl_cons]
  refine codedB_wid (fun c hc=>hl c (by simp [hc])) (fun y hy=>?_)
  unfold codedB insC at hy
  simp only [List.mem_append,List.mem_singleton] at hy
  rcases hy with (hy | hy) | hy
  ·exact ho y (List.mem_of_mem_take hy)
  ·rw [hy];exact hl b (by simp)
  ·exact ho y (List.mem_of_mem_drop hy)
theorem insAt_le (x:CodedD) (out:List CodedD):∀ n,insAt x out n≤n
 | 0=>Nat.le_refl _
 | n + 1=>by
  unfold insAt
  split
  ·exact Nat.le_succ_of_le (insAt_le x out n)
  ·exact Nat.le_refl _
def codesR (d:List DeclD):List CodedD:=(familyF (codesL d)).foldl (codedA d) []
def codesF (d:List DeclD):List CodedD×Int :=
 if check3F d≠0 then ([],check3F d) else if 256 < (familyF (codesL d)).length then ([],7) else (codesR d,0)
theorem named_size {s:ByteArray} {b:Bool} (h:namedF s b=true):s.size≤32:=by
 unfold namedF at h
 rw [Bool.and_eq_true] at h
 have h1:=h.1
 unfold namedH at h1
 simp only [Bool.not_eq_true',Bool.or_eq_false_iff,decide_eq_false_iff_not] at h1
 have:=h1.1.1.2
 omega
theorem namesL_size {d:List DeclD} (hn:namesF d=0):∀ s∈namesL d,s.size≤32:=by
 intro s hs
 obtain ⟨x,hx,rfl⟩:=namesL_mem hs
 obtain ⟨j,hj,rfl⟩:=mem_getD d0 hx
 exact named_size (namesG_zero hn j hj).2
def codesT (d:List DeclD) (n:Nat):List (List Int):=((namesL d).take n).map fun s=>codeF d (namesL d) s
theorem codesT_len {d:List DeclD} {n:Nat} (h:n≤(namesL d).length):(codesT d n).length=n:=by simp [codesT,h]
theorem codesT_succ {d:List DeclD} {n:Nat} (h:n < (namesL d).length):codesT d (n + 1)=codesT d n++[codeF d (namesL d) ((namesL d).getD n ByteArray.empty)]:=by
 unfold codesT
 rw [take_snoc _ ByteArray.empty h,List.map_append]
 rfl
theorem codesT_all (d:List DeclD):codesT d (namesL d).length=codesL d:=by simp [codesT,codesL]
theorem codesL_len (d:List DeclD):(codesL d).length=(namesL d).length:=by simp [codesL]
theorem codesL_wid {d:List DeclD} (h:d.length≤256):∀ c∈codesL d,c.length≤64:=by
 intro c hc
 unfold codesL at hc
 obtain ⟨s,-,rfl⟩:=List.mem_map.1 hc
 have hnl:=namesL_len d d.length
 rw [List.take_length] at hnl
 exact (code_bit (d:=d) (all:=namesL d) (by omega) s 0).2.2
theorem famI_wid {i:Nat}:∀ {n k:Nat} {l:List (List Int)},(∀ c∈l,c.length≤64)→∀ c∈famI i n k l,c.length≤64
 | 0,_,_,h=>h
 | n + 1,k,l,h=>by
  unfold famI
  split
  ·exact famI_wid (famK_wid h i k)
  ·exact h
theorem famG_wid:∀ {n i:Nat} {l:List (List Int)},(∀ c∈l,c.length≤64)→∀ c∈famG n i l,c.length≤64
 | 0,_,_,h=>h
 | n + 1,i,l,h=>by
  unfold famG
  split
  ·exact famG_wid (famI_wid h)
  ·exact h
theorem insC_mem {out:List CodedD} {x y:CodedD}:y∈insC out x↔y=x∨y∈out:=by
 unfold insC
 rw [List.mem_append,List.mem_append,List.mem_singleton]
 have h:=List.mem_append (a:=y) (s:=out.take (insAt x out out.length)) (t:=out.drop (insAt x out out.length))
 rw [List.take_append_drop] at h
 rw [h]
 constructor
 ·rintro ((h | h) | h)
  ·exact .inr (.inl h)
  ·exact .inl h
  ·exact .inr (.inr h)
 ·rintro (h | h | h)
  ·exact .inl (.inr h)
  ·exact .inl (.inl h)
  ·exact .inr h
def codesS:Spec:={ ins:=[T22],pre:=fun _=>True,out:=fun (d,_)=>[.p T138 (codesF d).1,.p T79 (codesF d).2] }
theorem codes_ok:FnOk Tryz.prog 97 codesS:=by
 refine fn_ok Tryz.func97 (by kernel_rfl) rfl Tryz.ntmps97 (by decide) (by kernel_rfl) (tyTab_ok [(133,check3S),(134,namesLS),(135,codeS),(136,familyS),(137,nameOfS),(138,beforeS)]) (fns_cons check3_ok (fns_cons namesL_ok (fns_cons code_ok (fns_cons family_ok (fns_cons nameOf_ok (fns_cons before_ok fns_nil)))))) ?_
 rintro w0 O0 ⟨d,u⟩ hc - -
 simp only [codesS,entEnv]
 repeat' (first | exact trivial | refine eS rfl ?_ | refine ev_out_inv ?_ | refine rX [0,2,3,4,5,6,7,8,9,10,11,12,13,17,24,41,45,73] hc ?_ ?_ | (refine rC (fun hcond=>?_) (fun hcond=>?_)<;>try (cases hcond;done)))
 ·have h1:codesF d=([],check3F d):=by unfold codesF;rw [if_pos hcond]
  exact ev_fin hc [.tmp 2,.tmp 3] rfl (.inl rfl) (by simp) (by rw [h1];first | exact eR | refine eRM ?_)
 ·have h3:check3F d=0:=by simpa using hcond
  obtain ⟨-,h2,-⟩:=check3_zero h3
  exact Nat.le_trans h2 (by decide)
 ·have h3:check3F d=0:=by simpa using hcond
  obtain ⟨hsup,hd,-,hn,-⟩:=check3_zero h3
  have hal:=namesL_len d d.length
  rw [List.take_length] at hal
  have hsz:=namesL_size hn
  refine ev_loop (ι:={n:Nat // n≤(namesL d).length}) (fun n=>⟨[(0,.p T22 d),(5,.p T151 (namesL d)),(6,.sr 36 T142 0 (codesT d n.1).length),(7,.p (.int .i64) (n.1:Int))],[(36,.arr 142 T142 (codesT d n.1))]⟩) (fun n=>(namesL d).length - n.1) ⟨0,Nat.zero_le _⟩ (ent_match [(36,.nil)] rfl rfl ?_ ?_) (fun n=>?_)
  ·first | exact eN | refine eM ?_
   rfl
  ·first | exact eN | refine eM ?_
   rfl
  ·obtain ⟨n,hnn⟩:=n
   have hcl:=codesT_len hnn
   have hs:=fun h=>codesT_succ (d:=d) (n:=n) h
   simp only
   repeat' (first | exact trivial | refine eS rfl ?_ | refine ev_out_inv ?_ | refine rX [0,2,3,4,5,6,7,8,9,10,11,12,13,17,24,41,45,73] hc ?_ ?_ | (refine rC (fun hcond=>?_) (fun hcond=>?_)<;>try (cases hcond;done)))
   ·refine ⟨hcond,⟨hd,by dsimp only [Ty.den] at *;omega⟩,?_⟩
    simp only [maxN]
    dsimp only [Ty.den] at *
    omega
   ·exact eV
   ·have hn2:n < (namesL d).length:=by exact eV
    have e:=hs hn2
    refine ⟨⟨n + 1,by omega⟩,by simp only;omega,ent_match [(36,.nm 36)] rfl rfl ?_ ?_⟩
    ·simp only [e]
     first | exact eN | refine eM ?_
    ·simp only [e]
     first | exact eN | refine eM ?_
   ·have hn2:n=(namesL d).length:=by exact eV
    subst hn2
    rw [codesT_all]
    have hcL:=codesL_len d
    have hwid:=codesL_wid hd
    have hfw:∀ c∈familyF (codesL d),c.length≤64:=famG_wid hwid
    refine frzE [36] ?_
    repeat' (first | exact trivial | refine eS rfl ?_ | refine ev_out_inv ?_ | refine rX [0,2,3,4,5,6,7,8,9,10,11,12,13,17,24,41,45,73] hc ?_ ?_ | (refine rC (fun hcond=>?_) (fun hcond=>?_)<;>try (cases hcond;done)))
    ·exact ⟨by omega,hwid⟩
    ·have h1:codesF d=([],7):=by
      unfold codesF
      rw [if_neg (by rw [h3];simp),if_pos (by omega)]
     exact ev_fin hc [.tmp 2,.tmp 3] rfl (.inl rfl) (by simp) (by rw [h1];first | exact eR | refine eRM ?_)
    ·have hr:codesF d=((familyF (codesL d)).foldl (codedB d (namesL d) (codesL d)) [],0):=by
      unfold codesF
      rw [if_neg (by rw [h3];simp),if_neg (by omega)]
      rfl
     generalize familyF (codesL d)=fam at *
     generalize codesL d=codes at *
     generalize namesL d=all at *
     refine ev_loop (ι:={k:Nat // k≤fam.length}) (fun k=>⟨[(0,.p T22 d),(5,.p T151 all),(6,.p T191 codes),(8,.p T191 fam),(9,.sr 9 T144 0 ((fam.take k.1).foldl (codedB d all codes) []).length),(10,.p (.int .i64) (k.1:Int))],[(9,.arr 144 T144 ((fam.take k.1).foldl (codedB d all codes) []))]⟩) (fun k=>fam.length - k.1) ⟨0,Nat.zero_le _⟩ (ent_match [(9,.nil)] rfl rfl ?_ ?_) (fun k=>?_)
     ·first | exact eN | refine eM ?_
      rfl
     ·first | exact eN | refine eM ?_
      rfl
     ·obtain ⟨k,hk⟩:=k
      have hol:=codedB_len d all codes (fam.take k) []
      have htl:(fam.take k).length=k:=by rw [List.length_take];exact Nat.min_eq_left hk
      have how:=codedB_wid (d:=d) (all:=all) (codes:=codes) (l:=fam.take k) (o:=[]) (fun c hc=>hfw c (List.mem_of_mem_take hc)) (by simp)
      have hss:=fun h:k < fam.length=>fold_tk (codedB d all codes) fam [] [] h
      rw [htl] at hol
      simp only [List.length_nil,Nat.zero_add] at hol
      generalize ho:(fam.take k).foldl (codedB d all codes) []=out at *
      simp only
      repeat' (first | exact trivial | refine eS rfl ?_ | refine ev_out_inv ?_ | refine rX [0,2,3,4,5,6,7,8,9,10,11,12,13,17,24,41,45,73] hc ?_ ?_ | (refine rC (fun hcond=>?_) (fun hcond=>?_)<;>try (cases hcond;done)))
      ·exact ⟨hcond,⟨hsup,hd,by omega,hcL,hsz,hwid,wid_getD hfw k⟩,hcond⟩
      ·have hk2:k < fam.length:=by exact eV
       have e:=hss hk2
       have hbw:=wid_getD hfw k
       generalize fam.getD k []=b at *
       unfold codedB at e
       generalize nameF d all codes b=nm at *
       refine ev_loop (ι:={q:Nat // q≤out.length∧insAt (nm,b) out q=insAt (nm,b) out out.length}) (fun q=>⟨[(0,.p T22 d),(5,.p T151 all),(6,.p T191 codes),(8,.p T191 fam),(9,.sr 9 T144 0 out.length),(10,.p (.int .i64) (k:Int)),(11,.bp 11 [] 0),(12,.p (.int .i64) (q.1:Int))],[(9,.arr 144 T144 out),(11,.box 144 true [.p T9 nm,.p T142 b])]⟩) (fun q=>q.1) ⟨out.length,Nat.le_refl _,rfl⟩ (ent_match [(9,.nm 9),(11,.nm 11)] rfl rfl ?_ ?_) (fun q=>?_)
       ·first | exact eN | refine eM ?_
       ·first | exact eN | refine eM ?_
       ·obtain ⟨q,hq,hins⟩:=q
        have hq:q≤out.length:=hq
        simp only
        repeat' (first | exact trivial | refine eS rfl ?_ | refine ev_out_inv ?_ | refine rX [0,2,3,4,5,6,7,8,9,10,11,12,13,17,24,41,45,73] hc ?_ ?_ | (refine rC (fun hcond=>?_) (fun hcond=>?_)<;>try (cases hcond;done)))
        ·refine ⟨fun h=>by omega,fun h=>by exact eV,fun h=>⟨Nat.le_trans hbw (by decide),Nat.le_trans (how _ (mem_of_take_succ out c0 (k:=((q:Int) - 1).toNat) (by omega))) (by decide)⟩⟩
        ·omega
        ·obtain ⟨g1,g2⟩:=hcond
         obtain ⟨q,rfl⟩:∃ r,q=r + 1:=⟨q - 1,by omega⟩
         have g3:((q + 1:Nat):Int) - 1=(q:Int):=by omega
         refine ⟨⟨q,by omega,?_⟩,Nat.lt_succ_self q,ent_match [(9,.nm 9),(11,.nm 11)] rfl rfl ?_ ?_⟩
         ·rw [← hins]
          rw [g3,Int.toNat_natCast] at g2
          show _=if beforeF (nm,b) (out.getD q c0)=true then insAt (nm,b) out q else q + 1
          rw [if_pos g2]
         ·first | exact eN | refine eM ?_
         ·first | exact eN | refine eM ?_
          show (q:Int) + 1 - 1=q
          omega
        ·refine ⟨Int.ofNat_le.2 hq,?_⟩
         rw [List.length_take]
         simp only [maxN]
         omega
        ·rw [List.length_take]
         simp only [maxN]
         omega
        ·refine ⟨Int.ofNat_le.2 hq,?_⟩
         rw [List.length_take,List.length_drop]
         simp only [maxN]
         omega
        ·omega
        ·have hpos:insAt (nm,b) out q=q:=by
          cases q with
          | zero=>rfl
          | succ q =>
           have g3:((q + 1:Nat):Int) - 1=(q:Int):=by omega
           have:=hcond (by omega)
           rw [g3,Int.toNat_natCast] at this
           show (if beforeF (nm,b) (out.getD q c0)=true then insAt (nm,b) out q else q + 1)=q + 1
           rw [if_neg (by rw [this];simp)]
         unfold insC at e
         rw [← hins,hpos] at e
         refine ⟨⟨k + 1,by omega⟩,by simp only;omega,ent_match [(9,.nm 80)] rfl rfl ?_ ?_⟩
         ·first | exact eN | refine eM ?_
          exact e.symm
         ·first | exact eN | refine eM ?_
          have e2:=congrArg List.length e
          rw [List.length_append,List.length_append] at e2
          exact e2.symm
      ·have hk2:k=fam.length:=by exact eV
       rw [hk2,List.take_length] at ho
       rw [ho] at hr
       refine frzE [9] ?_
       exact ev_fin hc [.tmp 2,.tmp 3] rfl (.inl rfl) (by simp) (by rw [hr];first | exact eR | refine eRM ?_)
end
/- Plain: each declared type has a number among the codes. -/
section
theorem coded_mem {d:List DeclD}:∀ {l:List (List Int)} {o:List CodedD} {y:CodedD},y∈l.foldl (codedA d) o↔y∈o∨∃ b∈l,y=(nameF d (namesL d) (codesL d) b,b)
 | [],o,y=>by simp
 | b :: l,o,y=>by
  rw [List.foldl_cons,coded_mem]
  unfold codedA codedB
  rw [insC_mem]
  simp only [List.mem_cons]
  constructor
  ·rintro ((h | h) | ⟨c,hc,e⟩)
   ·exact .inr ⟨b,.inl rfl,h⟩
   ·exact .inl h
   ·exact .inr ⟨c,.inr hc,e⟩
  ·rintro (h | ⟨c,rfl | hc,e⟩)
   ·exact .inl (.inr h)
   ·exact .inl (.inl e)
   ·exact .inr ⟨c,hc,e⟩
theorem codesR_mem {d:List DeclD} {y:CodedD}:y∈codesR d↔∃ b∈familyF (codesL d),y=(nameF d (namesL d) (codesL d) b,b):=by
 unfold codesR
 rw [coded_mem]
 simp
theorem codesR_len (d:List DeclD):(codesR d).length=(familyF (codesL d)).length:=by
 have h:=codedB_len d (namesL d) (codesL d) (familyF (codesL d)) []
 rw [List.length_nil,Nat.zero_add] at h
 exact h
theorem famK_sub {l:List (List Int)} {i k:Nat} {c:List Int} (h:c∈l):c∈famK l i k:=by
 unfold famK
 split
 ·exact List.mem_append.2 (.inl h)
 ·exact h
theorem famI_sub {i:Nat} {c:List Int}:∀ {n k:Nat} {l:List (List Int)},c∈l→c∈famI i n k l
 | 0,_,_,h=>h
 | n + 1,k,l,h=>by
  unfold famI
  split
  ·exact famI_sub (famK_sub h)
  ·exact h
theorem famG_sub {c:List Int}:∀ {n i:Nat} {l:List (List Int)},c∈l→c∈famG n i l
 | 0,_,_,h=>h
 | n + 1,i,l,h=>by
  unfold famG
  split
  ·exact famG_sub (famI_sub h)
  ·exact h
theorem codesL_getD (d:List DeclD) {i:Nat} (h:i < (namesL d).length):(codesL d).getD i []=codeF d (namesL d) ((namesL d).getD i ByteArray.empty):=by
 unfold codesL
 simp [List.getD_eq_getElem?_getD,h]
theorem nmG_hit {d:List DeclD} (hn:namesF d=0) (hl:d.length≤(placedF d).length) (h2:d.length≤256) {j:Nat} (hj:j < (namesL d).length):∀ (m i:Nat) (l:List ByteArray),i + m=(namesL d).length→i≤j →
  ∃ s,nmG d (namesL d) (codesL d) ((codesL d).getD j []) m i l=.inl s∧strEq s ((namesL d).getD j ByteArray.empty)=true
 | 0,i,l,h,hij=>by omega
 | m + 1,i,l,h,hij=>by
  unfold nmG
  split
  ·rename_i he
   refine ⟨_,rfl,?_⟩
   rw [codesL_getD d (by omega),codesL_getD d hj] at he
   exact code_inj hn hl h2 (by omega) hj he
  ·rename_i he
   have hne:i≠j:=by
    intro e
    subst e
    exact he (equalB_refl _)
   exact nmG_hit hn hl h2 hj m (i + 1) _ (by omega) (by omega)
theorem numG_lt (s:ByteArray):∀ (l:List CodedD) (k:Nat),numG s k l < ((k + l.length:Nat):Int)
 | [],k=>by simp only [numG];omega
 | x :: l,k=>by
  simp only [numG]
  split
  ·simp only [List.length_cons];omega
  ·have:=numG_lt s l (k + 1)
   simp only [List.length_cons]
   omega
theorem numG_ge (s:ByteArray):∀ (l:List CodedD) (k:Nat) (x:CodedD),x∈l→strEq x.1 s=true→0≤numG s k l
 | [],_,_,h,_=>by cases h
 | y :: l,k,x,h,e=>by
  simp only [numG]
  split
  ·omega
  ·rename_i hy
   rcases List.mem_cons.1 h with rfl | h
   ·exact absurd e hy
   ·exact numG_ge s l (k + 1) x h e
theorem numberF_lt (l:List CodedD) (s:ByteArray):numberF l s < (l.length:Int):=by
 have:=numG_lt s l 0
 rw [Nat.zero_add] at this
 exact this
theorem number_name {d:List DeclD} (h:check3F d=0) {s:ByteArray} (hs:amongF (namesL d) s=true):0≤numberF (codesR d) s:=by
 obtain ⟨-,h2,-,hn,hl⟩:=check3_zero h
 obtain ⟨t,ht,e⟩:=List.any_eq_true.1 hs
 obtain ⟨j,hj,rfl⟩:=mem_getD ByteArray.empty ht
 obtain ⟨u,hu,eu⟩:=nmG_hit hn hl h2 hj (namesL d).length 0 [] (by omega) (by omega)
 have hlen:(codesL d).length=(namesL d).length:=by simp [codesL]
 refine numG_ge s (codesR d) 0 (u,(codesL d).getD j []) ?_ (strEq_trans eu e)
 rw [codesR_mem]
 refine ⟨(codesL d).getD j [],famG_sub (getD_mem (by omega)),?_⟩
 unfold nameF
 rw [hu]
theorem number_decl {d:List DeclD} (h:check3F d=0) {x:DeclD} (hx:x∈d):0≤numberF (codesR d) x.1:=number_name h (namesL_has hx)
theorem codesF_zero {d:List DeclD} (h:(codesF d).2=0):check3F d=0∧(familyF (codesL d)).length≤256∧(codesF d).1=codesR d:=by
 unfold codesF at h ⊢
 split at h
 ·rename_i h1;exact absurd h h1
 ·rename_i h1
  split at h
  ·cases h
  ·rename_i h2
   exact ⟨Classical.byContradiction h1,by omega,by rw [if_neg h1,if_neg h2]⟩
theorem fam_pos {d:List DeclD} (h:check3F d=0):0 < (codesR d).length:=by
 obtain ⟨-,-,hr,-,-⟩:=check3_zero h
 cases d with
 | nil=>cases hr
 | cons x d =>
  have:=number_decl h (x:=x) (by simp)
  have h2:=numberF_lt (codesR (x :: d)) x.1
  omega
end
/- Functions of grammarlabref04: Supers. -/
section
attribute [local go_sem] subsS
def betw (l:List CodedD) (i k:Int) (m:Nat):Bool:=(m:Int) == i || (m:Int) == k || !subsF l k (m:Int) || !subsF l (m:Int) i
def dirA (l:List CodedD) (i k:Int) (n:Nat):Bool:=(List.range n).all (betw l i k)
def supB (l:List CodedD) (i:Int) (k:Nat):Bool:=!((k:Int) == i || !subsF l (k:Int) i) && dirA l i (k:Int) l.length
def supsG (l:List CodedD) (i:Int) (n:Nat):List Int:=((List.range n).filter fun (k:Nat)=>supB l i k).map fun (k:Nat)=>(k:Int)
def supsF (l:List CodedD) (i:Int):List Int:=supsG l i l.length
theorem supsG_succ (l:List CodedD) (i:Int) (n:Nat):supsG l i (n + 1)=supsG l i n++if supB l i n=true then [(n:Int)] else []:=by
 unfold supsG
 rw [List.range_succ,List.filter_append,List.map_append]
 congr 1
 rw [List.filter_cons,List.filter_nil]
 split<;>rfl
theorem supsG_len (l:List CodedD) (i:Int) (n:Nat):(supsG l i n).length≤n:=by
 unfold supsG
 rw [List.length_map]
 exact Nat.le_trans (List.length_filter_le _ _) (by simp)
theorem dirA_succ (l:List CodedD) (i k:Int) (n:Nat):dirA l i k (n + 1)=(dirA l i k n && betw l i k n):=by
 unfold dirA
 rw [List.range_succ,List.all_append]
 simp
def supsS:Spec:={ ins:=[T138,T3],pre:=fun (l,i,_)=>((0:Int)≤i∧i < (List.length l:Int))∧List.length l≤256∧(∀ x∈(l:List CodedD),x.2.length≤64),out:=fun (l,i,_)=>[.p T40 (supsF l i)] }
theorem sups_ok:FnOk Tryz.prog 98 supsS:=by
 refine fn_ok Tryz.func98 (by kernel_rfl) rfl Tryz.ntmps98 (by decide) (by kernel_rfl) (tyTab_ok [(139,subsS)]) (fns_cons subs_ok fns_nil) ?_
 rintro w0 O0 ⟨l,i,u⟩ hc - ⟨hi,hl,hx⟩
 have hl:l.length≤256:=hl
 have hx2:∀ x∈(l:List CodedD),x.2.length≤100000:=fun x h=>Nat.le_trans (hx x h) (by decide)
 simp only [supsS,entEnv]
 repeat' (first | exact trivial | refine eS rfl ?_ | refine ev_out_inv ?_ | refine rX [0,1,4,5,6,7,8,12,24,28,56] hc ?_ ?_ | (refine rC (fun hcond=>?_) (fun hcond=>?_)<;>try (cases hcond;done)))
 refine ev_loop (ι:={k:Nat // k≤l.length}) (fun k=>⟨[(0,.p T138 l),(1,.p T3 i),(5,.sr 60 T3 0 (supsG l i k.1).length),(6,.p (.int .i64) (k.1:Int))],[(60,.arr 3 T3 (supsG l i k.1))]⟩) (fun k=>l.length - k.1) ⟨0,Nat.zero_le _⟩ (ent_match [(60,.nil)] rfl rfl ?_ ?_) (fun k=>?_)
 ·first | exact eN | refine eM ?_
  rfl
 ·first | exact eN | refine eM ?_
  rfl
 ·obtain ⟨k,hk⟩:=k
  have hk:k≤l.length:=hk
  have hz:=supsG_len l i k
  have hs:=supsG_succ l i k
  simp only
  repeat' (first | exact trivial | refine eS rfl ?_ | refine ev_out_inv ?_ | refine rX [0,1,4,5,6,7,8,12,24,28,56] hc ?_ ?_ | (refine rC (fun hcond=>?_) (fun hcond=>?_)<;>try (cases hcond;done)))
  ·intro h
   exact ⟨by assumption,hi,hx2⟩
  ·exact eV
  ·have hk2:k < l.length:=by exact eV
   have hb:supB l i k=false:=by
    unfold supB
    rw [Bool.and_eq_false_iff]
    left
    rw [Bool.not_eq_false',Bool.or_eq_true,beq_iff_eq,Bool.not_eq_true']
    exact hcond
   rw [hb,if_neg (by simp),List.append_nil] at hs
   refine ⟨⟨k + 1,by omega⟩,by simp only;omega,ent_match [(60,.nm 60)] rfl rfl ?_ ?_⟩
   ·simp only [hs]
    first | exact eN | refine eM ?_
   ·simp only [hs]
    first | exact eN | refine eM ?_
  ·have hk2:k < l.length:=by exact eV
   have hb:supB l i k=dirA l i (k:Int) l.length:=by
    unfold supB
    rw [show ((k:Int) == i || !subsF l (k:Int) i)=false by
     rw [Bool.or_eq_false_iff,beq_eq_false_iff_ne,Bool.not_eq_false'];exact hcond]
    rfl
   refine ev_loop (ι:={m:Nat // m≤l.length}) (fun m=>⟨[(0,.p T138 l),(1,.p T3 i),(5,.sr 60 T3 0 (supsG l i k).length),(6,.p (.int .i64) (k:Int)),(7,.p .bool (dirA l i (k:Int) m.1)),(8,.p (.int .i64) (m.1:Int))],[(60,.arr 3 T3 (supsG l i k))]⟩) (fun m=>l.length - m.1) ⟨0,Nat.zero_le _⟩ (ent_match [(60,.nm 60)] rfl rfl ?_ ?_) (fun m=>?_)
   ·first | exact eN | refine eM ?_
   ·first | exact eN | refine eM ?_
    rfl
   ·obtain ⟨m,hm⟩:=m
    have hm:m≤l.length:=hm
    have hds:=dirA_succ l i (k:Int) m
    simp only
    repeat' (first | exact trivial | refine eS rfl ?_ | refine ev_out_inv ?_ | refine rX [0,1,4,5,6,7,8,12,24,28,56] hc ?_ ?_ | (refine rC (fun hcond=>?_) (fun hcond=>?_)<;>try (cases hcond;done)))
    ·exact ⟨fun h=>⟨by assumption,hcond,hx2⟩,fun h=>⟨hcond,hi,hx2⟩⟩
    ·exact eV
    ·have hm2:m < l.length:=by exact eV
     refine ⟨⟨m + 1,by omega⟩,by simp only;omega,ent_match [(60,.nm 60)] rfl rfl ?_ ?_⟩
     ·first | exact eN | refine eM ?_
     ·simp only [hds]
      unfold betw
      first | exact eN | refine eM ?_
    ·simp only [maxN];dsimp only [Ty.den] at *;omega
    ·exact eV
    ·have hm2:m=l.length:=by exact eV
     subst hm2
     rw [hb,if_pos hcond] at hs
     refine ⟨⟨k + 1,by omega⟩,by simp only;omega,ent_match [(60,.nm 60)] rfl rfl ?_ ?_⟩
     ·simp only [hs]
      first | exact eN | refine eM ?_
     ·simp only [hs]
      first | exact eN | refine eM ?_
    ·exact eV
    ·have hm2:m=l.length:=by exact eV
     subst hm2
     rw [hb,if_neg (by rw [hcond];simp),List.append_nil] at hs
     refine ⟨⟨k + 1,by omega⟩,by simp only;omega,ent_match [(60,.nm 60)] rfl rfl ?_ ?_⟩
     ·simp only [hs]
      first | exact eN | refine eM ?_
     ·simp only [hs]
      first | exact eN | refine eM ?_
  ·have hk2:k=l.length:=by exact eV
   subst hk2
   refine frzE [60] ?_
   exact ev_fin hc [.tmp 4] rfl (.inl rfl) (by simp) (by unfold supsF;first | exact eR | refine eRM ?_)
end
/- Functions of grammarlabref05: declarations. -/
section
attribute [local go_sem] namesLS featureS amongS
abbrev FV:=ByteArray×ByteArray
abbrev f0V:FV:=(ByteArray.empty,ByteArray.empty)
def dcG (all:List ByteArray) (l:List FV):Nat→List FV→Int
 | _,[]=>0
 | k,x :: r=>if namedF x.1 true=false then 1 else if ((l.take k).any fun y=>strEq y.1 x.1)=true then 4 else if amongF all x.2=false then 5 else dcG all l (k + 1) r
def dcsG (all:List ByteArray):List DeclD→Int
 | []=>0
 | x :: l=>if dcG all x.2.2 0 x.2.2≠0 then dcG all x.2.2 0 x.2.2 else dcsG all l
def declsF (d:List DeclD):Int:=dcsG (namesL d) d
theorem dcG_step (all:List ByteArray) (l:List FV) {k:Nat} (h:k < l.length):dcG all l k (l.drop k)=if namedF (l.getD k f0V).1 true=false then 1 else if ((l.take k).any fun y=>strEq y.1 (l.getD k f0V).1)=true then 4 else if amongF all (l.getD k f0V).2=false then 5 else dcG all l (k + 1) (l.drop (k + 1)):=by
 rw [List.drop_eq_getElem_cons h]
 have e:l.getD k f0V=l[k]:=by simp [List.getD_eq_getElem?_getD,h]
 rw [e]
 rfl
theorem dcsG_step (all:List ByteArray) (l:List DeclD) {k:Nat} (h:k < l.length):dcsG all (l.drop k)=if dcG all (l.getD k d0).2.2 0 (l.getD k d0).2.2≠0 then dcG all (l.getD k d0).2.2 0 (l.getD k d0).2.2 else dcsG all (l.drop (k + 1)):=by
 rw [List.drop_eq_getElem_cons h]
 have e:l.getD k d0=l[k]:=by simp [List.getD_eq_getElem?_getD,h]
 rw [e]
 rfl
def declsS:Spec:={ ins:=[T22],pre:=fun (d,_)=>List.length d≤256,out:=fun (d,_)=>[.p T79 (declsF d)] }
theorem decls_ok:FnOk Tryz.prog 173 declsS:=by
 refine fn_ok Tryz.func173 (by kernel_rfl) rfl Tryz.ntmps173 (by decide) (by kernel_rfl) (tyTab_ok [(134,namesLS),(204,featureS),(183,amongS)]) (fns_cons namesL_ok (fns_cons feature_ok (fns_cons among_ok fns_nil))) ?_
 rintro w0 O0 ⟨d,u⟩ hc ⟨⟨hdl,hall⟩,-⟩ hd
 have hd:d.length≤256:=hd
 simp only [declsS,entEnv]
 repeat' (first | exact trivial | refine eS rfl ?_ | refine ev_out_inv ?_ | refine rX [0,2,3,4,5,6,7,13,24,33,36,49,57] hc ?_ ?_ | (refine rC (fun hcond=>?_) (fun hcond=>?_)<;>try (cases hcond;done)))
 ·exact Nat.le_trans hd (by decide)
 ·have hdf:declsF d=dcsG (namesL d) d:=rfl
  rw [hdf]
  generalize namesL d=all at *
  refine ev_loop (ι:={i:Nat // i≤d.length∧dcsG all (d.drop i)=dcsG all d}) (fun i=>⟨[(0,.p T22 d),(3,.p T151 all),(4,.p (.int .i64) (i.1:Int))],[]⟩) (fun i=>d.length - i.1) ⟨0,Nat.zero_le _,rfl⟩ (ent_match [] rfl rfl ?_ ?_) (fun i=>?_)
  ·first | exact eN | refine eM ?_
  ·first | exact eN | refine eM ?_
  ·obtain ⟨i,hi,hf⟩:=i
   simp only
   repeat' (first | exact trivial | refine eS rfl ?_ | refine ev_out_inv ?_ | refine rX [0,2,3,4,5,6,7,13,24,33,36,49,57] hc ?_ ?_ | (refine rC (fun hcond=>?_) (fun hcond=>?_)<;>try (cases hcond;done)))
   ·exact hcond
   ·have hi2:i < d.length:=by exact eV
    rw [dcsG_step all d hi2] at hf
    have hfl:(d.getD i d0).2.2.length≤maxN:=(hall _ (mem_of_take_succ d d0 hi2)).2.2.1
    have hfe:(List.getD d i (ByteArray.empty,[],[])).2.2=(d.getD i d0).2.2:=rfl
    rw [hfe]
    generalize (d.getD i d0).2.2=l at *
    simp only [maxN] at hfl
    refine ev_loop (ι:={k:Nat // k≤l.length∧dcG all l k (l.drop k)=dcG all l 0 l}) (fun k=>⟨[(0,.p T22 d),(3,.p T151 all),(4,.p (.int .i64) (i:Int)),(5,.p T152 l),(6,.p (.int .i64) (k.1:Int))],[]⟩) (fun k=>l.length - k.1) ⟨0,Nat.zero_le _,rfl⟩ (ent_match [] rfl rfl ?_ ?_) (fun k=>?_)
    ·first | exact eN | refine eM ?_
    ·first | exact eN | refine eM ?_
    ·obtain ⟨k,hk,hg⟩:=k
     have hstep:=fun h:k < l.length=>dcG_step all l h
     simp only
     repeat' (first | exact trivial | refine eS rfl ?_ | refine ev_out_inv ?_ | refine rX [0,2,3,4,5,6,7,13,24,33,36,49,57] hc ?_ ?_ | (refine rC (fun hcond=>?_) (fun hcond=>?_)<;>try (cases hcond;done)))
     ·exact hcond
     ·have hk2:k < l.length:=by exact eV
      rw [hstep hk2,if_pos hcond] at hg
      rw [← hg,if_pos (by decide)] at hf
      exact ev_fin hc [.tmp 2] rfl (.inl rfl) (by simp) (by rw [← hf];first | exact eR | refine eRM ?_)
     ·have hk2:k < l.length:=by exact eV
      have hkI:(k:Int) < (l.length:Int):=Int.ofNat_lt.2 hk2
      rw [hstep hk2,if_neg (by rw [hcond];simp)] at hg
      refine ev_loop (ι:={m:Nat // m≤k∧((l.take m).any fun y=>strEq y.1 (l.getD k f0V).1)=false}) (fun m=>⟨[(0,.p T22 d),(3,.p T151 all),(4,.p (.int .i64) (i:Int)),(5,.p T152 l),(6,.p (.int .i64) (k:Int)),(7,.p (.int .i64) (m.1:Int))],[]⟩) (fun m=>k - m.1) ⟨0,Nat.zero_le _,rfl⟩ (ent_match [] rfl rfl ?_ ?_) (fun m=>?_)
      ·first | exact eN | refine eM ?_
      ·first | exact eN | refine eM ?_
      ·obtain ⟨m,hm,hany⟩:=m
       have hstep2:=fun h:m < l.length=>any_take2 l f0V (fun y=>strEq y.1 (l.getD k f0V).1) h
       simp only
       repeat' (first | exact trivial | refine eS rfl ?_ | refine ev_out_inv ?_ | refine rX [0,2,3,4,5,6,7,13,24,33,36,49,57] hc ?_ ?_ | (refine rC (fun hcond=>?_) (fun hcond=>?_)<;>try (cases hcond;done)))
       ·have h1:(m:Int) < (k:Int):=hcond
        exact ⟨by exact eV,hkI⟩
       ·have hm2:m < k:=Int.ofNat_lt.1 (by assumption)
        have h2:=hstep2 (by omega)
        have h3:((l.take k).any fun y=>strEq y.1 (l.getD k f0V).1)=true:=by
         rw [List.any_eq_true]
         exact ⟨l.getD m f0V,by
          rw [List.mem_take_iff_getElem]
          refine ⟨m,by omega,?_⟩
          simp [List.getD_eq_getElem?_getD,show m < l.length by omega],hcond⟩
        rw [if_pos h3] at hg
        rw [← hg,if_pos (by decide)] at hf
        exact ev_fin hc [.tmp 2] rfl (.inl rfl) (by simp) (by rw [← hf];first | exact eR | refine eRM ?_)
       ·omega
       ·have hm2:m < k:=Int.ofNat_lt.1 (by assumption)
        have h2:=hstep2 (by omega)
        refine ⟨⟨m + 1,by omega,?_⟩,by simp only;omega,ent_match [] rfl rfl ?_ ?_⟩
        ·rw [h2,hany]
         exact hcond
        ·first | exact eN | refine eM ?_
        ·first | exact eN | refine eM ?_
       ·exact hkI
       ·have hm2:m=k:=by omega
        subst hm2
        rw [if_neg (by rw [hany];simp),if_pos hcond] at hg
        rw [← hg,if_pos (by decide)] at hf
        exact ev_fin hc [.tmp 2] rfl (.inl rfl) (by simp) (by rw [← hf];first | exact eR | refine eRM ?_)
       ·have:=hdl
        simp only [maxN] at this
        omega
       ·have hm2:m=k:=by omega
        subst hm2
        rw [if_neg (by rw [hany];simp),if_neg (by rw [hcond];simp)] at hg
        refine ⟨⟨m + 1,by omega,hg⟩,by simp only;omega,ent_match [] rfl rfl ?_ ?_⟩
        ·first | exact eN | refine eM ?_
        ·first | exact eN | refine eM ?_
     ·omega
     ·have hk2:l.drop k=[]:=List.drop_eq_nil_of_le (Int.ofNat_le.1 hcond)
      rw [hk2] at hg
      rw [← hg,if_neg (by simp [dcG])] at hf
      refine ⟨⟨i + 1,by omega,hf⟩,by simp only;omega,ent_match [] rfl rfl ?_ ?_⟩
      ·first | exact eN | refine eM ?_
      ·first | exact eN | refine eM ?_
   ·have hk2:d.drop i=[]:=List.drop_eq_nil_of_le (by exact eV)
    rw [hk2] at hf
    exact ev_fin hc [.tmp 2] rfl (.inl rfl) (by simp) (by rw [← hf];first | exact eR | refine eRM ?_;rfl)
end
/- Functions of grammarlabref05: intro. -/
section
attribute [local go_sem] valueS putS maximalS cs0
def userA (s:ByteArray) (o:List ByteArray) (x:DeclD):List ByteArray:=if (valueF x s).2=true then putF o x.1 else o
def usersF (d:List DeclD) (s:ByteArray):List ByteArray:=d.foldl (userA s) []
theorem usersF_len (s:ByteArray) (d:List DeclD) (k:Nat):(usersF (d.take k) s).length≤k:=by
 have key:∀ (l:List DeclD) (o:List ByteArray),(l.foldl (userA s) o).length≤o.length + l.length:=by
  intro l
  induction l with
  | nil=>intro o;simp
  | cons x l ih =>
   intro o
   have h1:=ih (userA s o x)
   have h2:(userA s o x).length≤o.length + 1:=by
    unfold userA
    split
    ·exact putF_len o x.1
    ·omega
   simp only [List.foldl_cons,List.length_cons]
   omega
 have h1:=key (d.take k) []
 have h2:=List.length_take_le k d
 unfold usersF
 simp only [List.length_nil] at h1
 omega
def introF (d:List DeclD) (s:ByteArray):ByteArray×Bool:=if (maximalF d (usersF d s)).length=1 then ((maximalF d (usersF d s)).getD 0 ByteArray.empty,true) else (ByteArray.empty,false)
def introS:Spec:={ ins:=[T22,T9],pre:=fun (d,_,_)=>SupOk d∧List.length d≤256,out:=fun (d,s,_)=>[.p T9 (introF d s).1,.p .bool (introF d s).2] }
theorem intro_ok:FnOk Tryz.prog 140 introS:=by
 refine fn_ok Tryz.func140 (by kernel_rfl) rfl Tryz.ntmps140 (by decide) (by kernel_rfl) (tyTab_ok [(175,valueS),(174,putS),(188,maximalS)]) (fns_cons value_ok (fns_cons put_ok (fns_cons maximal_ok fns_nil))) ?_
 rintro w0 O0 ⟨d,s,u⟩ hc - ⟨hsup,hd⟩
 have hd:d.length≤256:=hd
 simp only [introS,entEnv]
 repeat' (first | exact trivial | refine eS rfl ?_ | refine ev_out_inv ?_ | refine rX [0,1,4,5,6,7,9,10,14,26,39] hc ?_ ?_ | (refine rC (fun hcond=>?_) (fun hcond=>?_)<;>try (cases hcond;done)))
 refine ev_loop (ι:={i:Nat // i≤d.length}) (fun i=>⟨[(0,.p T22 d),(1,.p T9 s),(6,.p T151 (usersF (d.take i.1) s)),(7,.p (.int .i64) (i.1:Int))],[]⟩) (fun i=>d.length - i.1) ⟨0,Nat.zero_le _⟩ (ent_match [] rfl rfl ?_ ?_) (fun i=>?_)
 ·first | exact eN | refine eM ?_
 ·first | exact eN | refine eM ?_
  rfl
 ·obtain ⟨i,hi⟩:=i
  have hi:i≤d.length:=hi
  have hn:=usersF_len s d i
  have hs:=fun h:i < d.length=>fold_tk (userA s) d d0 [] h
  have hfe:∀ e,usersF e s=e.foldl (userA s) []:=fun _=>rfl
  rw [← hfe,← hfe] at hs
  unfold userA at hs
  simp only
  repeat' (first | exact trivial | refine eS rfl ?_ | refine ev_out_inv ?_ | refine rX [0,1,4,5,6,7,9,10,14,26,39] hc ?_ ?_ | (refine rC (fun hcond=>?_) (fun hcond=>?_)<;>try (cases hcond;done)))
  ·exact hcond
  ·exact ⟨by assumption,by omega⟩
  ·exact eV
  ·have hi2:i < d.length:=by exact eV
   have e:=hs hi2
   rw [if_pos hcond] at e
   refine ⟨⟨i + 1,by omega⟩,by simp only;omega,ent_match [] rfl rfl ?_ ?_⟩
   ·first | exact eN | refine eM ?_
   ·simp only [e]
    first | exact eN | refine eM ?_
  ·exact eV
  ·have hi2:i < d.length:=by exact eV
   have e:=hs hi2
   rw [if_neg (by rw [hcond];simp)] at e
   refine ⟨⟨i + 1,by omega⟩,by simp only;omega,ent_match [] rfl rfl ?_ ?_⟩
   ·first | exact eN | refine eM ?_
   ·simp only [e]
    first | exact eN | refine eM ?_
  ·exact ⟨hsup,hd,by omega⟩
  ·have hi2:d.take i=d:=List.take_of_length_le (by exact eV)
   rw [hi2] at hcond ⊢
   have h1:introF d s=(ByteArray.empty,false):=by
    unfold introF
    rw [if_neg (by omega)]
   exact ev_fin hc [.tmp 4,.tmp 5] rfl (.inl rfl) (by simp) (by rw [h1];first | exact eR | refine eRM ?_;first | rfl | exact ⟨rfl,rfl⟩)
  ·have h2:((maximalF d (usersF (d.take i) s)).length:Int)=1:=by simpa using hcond
   have h3:(0:Int) < ((maximalF d (usersF (d.take i) s)).length:Int):=by rw [h2];decide
   exact h3
  ·have hi2:d.take i=d:=List.take_of_length_le (by exact eV)
   rw [hi2] at hcond ⊢
   have h2:((maximalF d (usersF d s)).length:Int)=1:=by simpa using hcond
   have h1:introF d s=((maximalF d (usersF d s)).getD 0 ByteArray.empty,true):=by
    unfold introF
    rw [if_pos (by omega)]
   exact ev_fin hc [.tmp 4,.tmp 5] rfl (.inl rfl) (by simp) (by rw [h1];first | exact eR | refine eRM ?_)
end
/- Functions of grammarlabref05: inherited. -/
section
attribute [local go_sem] valueS numberS subsS andS
def inhA (l:List CodedD) (t:Int) (s:ByteArray) (o:List Int×Bool) (x:DeclD):List Int×Bool :=
 if (!(valueF x s).2 || !subsF l (numberF l x.1) t)=true then o else (andF o.1 (l.getD (numberF l (valueF x s).1).toNat c0).2,true)
def inhF (d:List DeclD) (l:List CodedD) (t:Int) (s:ByteArray):List Int×Bool:=d.foldl (inhA l t s) ((l.getD 0 c0).2,false)
def NrOk (d:List DeclD) (l:List CodedD):Prop:=(∀ x∈d,0≤numberF l x.1)∧∀ x∈d,∀ y∈x.2.2,0≤numberF l y.2
theorem valG_mem (s:ByteArray):∀ (l:List (ByteArray×ByteArray)),(valG s l).2=true→∃ y∈l,y.2=(valG s l).1
 | [],h=>by cases h
 | x :: l,h=>by
  simp only [valG] at h ⊢
  split at h
  ·rename_i h1
   rw [if_pos h1]
   exact ⟨x,by simp,rfl⟩
  ·rename_i h1
   rw [if_neg h1]
   obtain ⟨y,hy,e⟩:=valG_mem s l h
   exact ⟨y,by simp [hy],e⟩
theorem NrOk.value {d:List DeclD} {l:List CodedD} (h:NrOk d l) {x:DeclD} (hx:x∈d) {s:ByteArray} (hv:(valueF x s).2=true):0≤numberF l (valueF x s).1:=by
 obtain ⟨y,hy,e⟩:=valG_mem s x.2.2 hv
 have:=h.2 x hx y hy
 rw [e] at this
 exact this
theorem inhA_len {l:List CodedD} (t:Int) (s:ByteArray) (x:DeclD) {o:List Int×Bool} (h:o.1.length≤64):(inhA l t s o x).1.length≤64:=by
 unfold inhA
 split
 ·exact h
 ·exact Nat.le_trans (andF_len _ _) h
theorem inhs_len {l:List CodedD} (t:Int) (s:ByteArray):∀ (d:List DeclD) {o:List Int×Bool},o.1.length≤64→(d.foldl (inhA l t s) o).1.length≤64
 | [],_,h=>h
 | x :: d,_,h=>by rw [List.foldl_cons];exact inhs_len t s d (inhA_len t s x h)
theorem numG_lt1 (s:ByteArray):∀ (l:List CodedD) (k:Nat),numG s k l < ((k + l.length:Nat):Int)
 | [],k=>by simp only [numG];omega
 | x :: l,k=>by
  simp only [numG]
  split
  ·simp only [List.length_cons];omega
  ·have:=numG_lt1 s l (k + 1)
   simp only [List.length_cons]
   omega
theorem numberF_lt1 (l:List CodedD) (s:ByteArray):numberF l s < (l.length:Int):=by
 have:=numG_lt1 s l 0
 rw [Nat.zero_add] at this
 exact this
def inhS:Spec:={ ins:=[T22,T138,T3,T9],pre:=fun (d,l,t,_,_)=>NrOk d l∧((0:Int)≤t∧t < (List.length l:Int))∧List.length l≤256∧(∀ x∈(l:List CodedD),x.2.length≤64),out:=fun (d,l,t,s,_)=>[.p T142 (inhF d l t s).1,.p .bool (inhF d l t s).2] }
theorem inh_ok:FnOk Tryz.prog 131 inhS:=by
 refine fn_ok Tryz.func131 (by kernel_rfl) rfl Tryz.ntmps131 (by decide) (by kernel_rfl) (tyTab_ok [(175,valueS),(141,numberS),(139,subsS),(143,andS)]) (fns_cons value_ok (fns_cons number_ok (fns_cons subs_ok (fns_cons and_ok fns_nil)))) ?_
 rintro w0 O0 ⟨d,l,t,s,u⟩ hc ⟨⟨hdl,hall⟩,-⟩ ⟨hnum,ht,hl,hx⟩
 have hl:l.length≤256:=hl
 have hx2:∀ x∈(l:List CodedD),x.2.length≤100000:=fun x h=>Nat.le_trans (hx x h) (by decide)
 have hlp:0 < List.length l:=Int.ofNat_lt.1 (Int.lt_of_le_of_lt ht.1 ht.2)
 simp only [maxN] at hdl
 simp only [inhS,entEnv]
 repeat' (first | exact trivial | refine eS rfl ?_ | refine ev_out_inv ?_ | refine rX [0,1,2,3,8,9,10,11,12,13,14,22,48] hc ?_ ?_ | (refine rC (fun hcond=>?_) (fun hcond=>?_)<;>try (cases hcond;done)))
 ·exact Int.ofNat_lt.2 hlp
 ·have hif:inhF d l t s=d.foldl (inhA l t s) ((l.getD 0 c0).2,false):=rfl
  have hc0:(l.getD 0 c0).2.length≤64:=hx _ (mem_of_take_succ l c0 hlp)
  have hc1:(List.getD l 0 (ByteArray.empty,[])).2=(l.getD 0 c0).2:=rfl
  rw [hc1]
  generalize (l.getD 0 c0).2=b0 at *
  refine ev_loop (ι:={i:Nat // i≤d.length}) (fun i=>⟨[(0,.p T22 d),(1,.p T138 l),(2,.p T3 t),(3,.p T9 s),(10,.p .bool ((d.take i.1).foldl (inhA l t s) (b0,false)).2),(11,.p T142 ((d.take i.1).foldl (inhA l t s) (b0,false)).1),(12,.p (.int .i64) (i.1:Int))],[]⟩) (fun i=>d.length - i.1) ⟨0,Nat.zero_le _⟩ (ent_match [] rfl rfl ?_ ?_) (fun i=>?_)
  ·first | exact eN | refine eM ?_
  ·first | exact eN | refine eM ?_
   exact ⟨rfl,rfl⟩
  ·obtain ⟨i,hi⟩:=i
   have hi:i≤d.length:=hi
   have hlen:=inhs_len (l:=l) t s (d.take i) (o:=(b0,false)) hc0
   have hs:=fun h:i < d.length=>fold_tk (inhA l t s) d d0 (b0,false) h
   have hnx:=fun h:i < d.length=>hnum.1 _ (mem_of_take_succ d d0 h)
   have hnv:=fun (h:i < d.length) (g:(valueF (d.getD i d0) s).2=true)=>hnum.value (mem_of_take_succ d d0 h) g
   have hia:∀ o x,inhA l t s o x=(if (!(valueF x s).2 || !subsF l (numberF l x.1) t)=true then o else (andF o.1 (l.getD (numberF l (valueF x s).1).toNat c0).2,true)):=fun _ _=>rfl
   generalize ho:(d.take i).foldl (inhA l t s) (b0,false)=o at *
   simp only
   repeat' (first | exact trivial | refine eS rfl ?_ | refine ev_out_inv ?_ | refine rX [0,1,2,3,8,9,10,11,12,13,14,22,48] hc ?_ ?_ | (refine rC (fun hcond=>?_) (fun hcond=>?_)<;>try (cases hcond;done)))
   ·exact hcond
   ·have hi2:i < d.length:=Int.ofNat_lt.1 hcond
    exact ⟨fun _=>hcond,fun _=>⟨⟨hnx hi2,numberF_lt1 _ _⟩,ht,hx2⟩⟩
   ·exact eV
   ·have hi2:i < d.length:=Int.ofNat_lt.1 (by assumption)
    have e:=hs hi2
    rw [hia,if_pos (by rw [Bool.or_eq_true,Bool.not_eq_true',Bool.not_eq_true'];exact hcond)] at e
    refine ⟨⟨i + 1,by omega⟩,by simp only;omega,ent_match [] rfl rfl ?_ ?_⟩
    ·first | exact eN | refine eM ?_
    ·first | exact eN | refine eM ?_
     rw [e]
     exact ⟨rfl,rfl⟩
   ·have hi2:i < d.length:=Int.ofNat_lt.1 (by assumption)
    exact ⟨⟨hnv hi2 hcond.1,numberF_lt1 _ _⟩,Nat.le_trans hlen (by decide)⟩
   ·exact eV
   ·have hi2:i < d.length:=Int.ofNat_lt.1 (by assumption)
    have e:=hs hi2
    have hneg:¬ (!(valueF (d.getD i d0) s).2 || !subsF l (numberF l (d.getD i d0).1) t)=true:=by
     rw [Bool.or_eq_true,Bool.not_eq_true',Bool.not_eq_true']
     rintro (h | h)
     ·rw [show (valueF (d.getD i d0) s).2=true from hcond.1] at h;cases h
     ·rw [show subsF l (numberF l (d.getD i d0).1) t=true from hcond.2] at h;cases h
    rw [hia,if_neg hneg] at e
    refine ⟨⟨i + 1,by omega⟩,by simp only;omega,ent_match [] rfl rfl ?_ ?_⟩
    ·first | exact eN | refine eM ?_
    ·first | exact eN | refine eM ?_
     rw [e]
     exact ⟨rfl,rfl⟩
   ·have hi2:d.take i=d:=List.take_of_length_le (Int.ofNat_le.1 hcond)
    rw [hi2] at ho
    rw [ho] at hif
    exact ev_fin hc [.tmp 8,.tmp 9] rfl (.inl rfl) (by simp) (by rw [hif];first | exact eR | refine eRM ?_)
end
/- Plain: what passes grammarlabref04.Codes and the checks of grammarlabref05. -/
section
theorem sizesG_zero:∀ {l:List DeclD},sizesG l=0→∀ x∈l,x.2.1.length≤256∧x.2.2.length≤256
 | [],_,x,hx=>by cases hx
 | y :: l,h,x,hx=>by
  simp only [sizesG] at h
  split at h
  ·cases h
  ·rename_i h1
   rcases List.mem_cons.1 hx with rfl | hx
   ·exact ⟨by omega,by omega⟩
   ·exact sizesG_zero h x hx
theorem check3_sizes {d:List DeclD} (h:check3F d=0):∀ x∈d,x.2.1.length≤256∧x.2.2.length≤256:=by
 have h1:sizesF d=0:=by
  unfold check3F at h
  split at h
  ·rename_i h1;exact absurd h h1
  ·rename_i h1;exact Classical.byContradiction h1
 unfold sizesF at h1
 split at h1
 ·cases h1
 ·exact sizesG_zero h1
theorem codesR_wid {d:List DeclD} (h:check3F d=0):∀ x∈codesR d,x.2.length≤64:=by
 intro x hx
 obtain ⟨-,h2,-⟩:=check3_zero h
 obtain ⟨b,hb,rfl⟩:=codesR_mem.1 hx
 exact famG_wid (codesL_wid h2) b hb
theorem dcG_zero {all:List ByteArray} {l:List FV}:∀ {r:List FV} {k:Nat},dcG all l k r=0→∀ y∈r,amongF all y.2=true
 | [],_,_,y,hy=>by cases hy
 | x :: r,k,h,y,hy=>by
  simp only [dcG] at h
  split at h
  ·cases h
  ·split at h
   ·cases h
   ·split at h
    ·cases h
    ·rename_i h3
     rcases List.mem_cons.1 hy with rfl | hy
     ·simpa using h3
     ·exact dcG_zero h y hy
theorem dcsG_zero {all:List ByteArray}:∀ {l:List DeclD},dcsG all l=0→∀ x∈l,∀ y∈x.2.2,amongF all y.2=true
 | [],_,x,hx=>by cases hx
 | z :: l,h,x,hx=>by
  simp only [dcsG] at h
  split at h
  ·rename_i h1;exact absurd h h1
  ·rename_i h1
   rcases List.mem_cons.1 hx with rfl | hx
   ·exact dcG_zero (Classical.byContradiction h1)
   ·exact dcsG_zero h x hx
theorem nrOk_of {d:List DeclD} (h:check3F d=0) (h2:declsF d=0):NrOk d (codesR d) :=
 ⟨fun x hx=>number_decl h hx,fun x hx y hy=>number_name h (dcsG_zero h2 x hx y hy)⟩
end
/- Functions of grammarlabref05: Check. -/
section
attribute [local go_sem] codesS featsS declsS introS inhS
def inhBad (d:List DeclD) (l:List CodedD) (t:Nat) (s:ByteArray):Bool:=(inhF d l (t:Int) s).2 && ((inhF d l (t:Int) s).1.length:Int) == 0
def inhBads (d:List DeclD) (l:List CodedD) (f:List ByteArray) (t:Nat):Bool:=f.any (inhBad d l t)
def valBad (d:List DeclD) (l:List CodedD) (f:List ByteArray) (n:Nat):Bool:=(List.range n).any (inhBads d l f)
theorem valBad_succ (d:List DeclD) (l:List CodedD) (f:List ByteArray) (n:Nat):valBad d l f (n + 1)=(valBad d l f n || inhBads d l f n):=by
 unfold valBad
 rw [List.range_succ,List.any_append]
 simp
def check5F (d:List DeclD):Int :=
 if (codesF d).2≠0 then (codesF d).2 else if 64 < (featsF d).length then 7 else if declsF d≠0 then declsF d else
 if ((featsF d).all fun s=>(introF d s).2)=false then 10 else if valBad d (codesF d).1 (featsF d) (codesF d).1.length=true then 11 else 0
def check5S:Spec:={ ins:=[T22],pre:=fun _=>True,out:=fun (d,_)=>[.p T79 (check5F d)] }
theorem check5_ok:FnOk Tryz.prog 129 check5S:=by
 refine fn_ok Tryz.func129 (by kernel_rfl) rfl Tryz.ntmps129 (by decide) (by kernel_rfl) (tyTab_ok [(97,codesS),(130,featsS),(173,declsS),(140,introS),(131,inhS)]) (fns_cons codes_ok (fns_cons feats_ok (fns_cons decls_ok (fns_cons intro_ok (fns_cons inh_ok fns_nil))))) ?_
 rintro w0 O0 ⟨d,u⟩ hc - -
 simp only [check5S,entEnv]
 repeat' (first | exact trivial | refine eS rfl ?_ | refine ev_out_inv ?_ | refine rX [0,2,3,4,5,6,7,9,10,11,12,13,20,26,30,35,48,52,58,77] hc ?_ ?_ | (refine rC (fun hcond=>?_) (fun hcond=>?_)<;>try (cases hcond;done)))
 ·have h1:check5F d=(codesF d).2:=by unfold check5F;rw [if_pos hcond]
  exact ev_fin hc [.tmp 2] rfl (.inl rfl) (by simp) (by rw [h1];first | exact eR | refine eRM ?_)
 ·have hz:(codesF d).2=0:=by simpa using hcond
  obtain ⟨h3,-,-⟩:=codesF_zero hz
  obtain ⟨-,hd,-⟩:=check3_zero h3
  exact ⟨hd,fun x hx=>(check3_sizes h3 x hx).2⟩
 ·have hz:(codesF d).2=0:=by simpa using ‹((codesF d).2 != 0)=false›
  have h1:check5F d=7:=by
   unfold check5F
   rw [if_neg (by rw [hz];simp),if_pos (by omega)]
  exact ev_fin hc [.tmp 2] rfl (.inl rfl) (by simp) (by rw [h1];first | exact eR | refine eRM ?_)
 ·have hz:(codesF d).2=0:=by simpa using ‹((codesF d).2 != 0)=false›
  obtain ⟨h3,-,-⟩:=codesF_zero hz
  exact (check3_zero h3).2.1
 ·have hz:(codesF d).2=0:=by simpa using ‹((codesF d).2 != 0)=false›
  have h1:check5F d=declsF d:=by
   unfold check5F
   rw [if_neg (by rw [hz];simp),if_neg (by omega),if_pos hcond]
  exact ev_fin hc [.tmp 2] rfl (.inl rfl) (by simp) (by rw [h1];first | exact eR | refine eRM ?_)
 ·have hz:(codesF d).2=0:=by simpa using ‹((codesF d).2 != 0)=false›
  have hdz:declsF d=0:=by simpa using hcond
  obtain ⟨h3,hlen,hl⟩:=codesF_zero hz
  obtain ⟨hsup,hd,-⟩:=check3_zero h3
  have hnr:=nrOk_of h3 hdz
  have hwid:=codesR_wid h3
  have hpos:=fam_pos h3
  have hll:(codesR d).length≤256:=by rw [codesR_len];exact hlen
  have hc5:check5F d=if ((featsF d).all fun s=>(introF d s).2)=false then 10 else if valBad d (codesF d).1 (featsF d) (codesF d).1.length=true then 11 else 0:=by
   unfold check5F
   rw [if_neg (by rw [hz];simp),if_neg (by omega),if_neg (by rw [hdz];simp)]
  rw [hl] at hc5 ⊢
  generalize codesR d=l at *
  generalize featsF d=f at *
  refine ev_loop (ι:={i:Nat // i≤f.length∧((f.take i).all fun s=>(introF d s).2)=true}) (fun i=>⟨[(0,.p T22 d),(3,.p T138 l),(5,.p T151 f),(7,.p (.int .i64) (i.1:Int))],[]⟩) (fun i=>f.length - i.1) ⟨0,Nat.zero_le _,rfl⟩ (ent_match [] rfl rfl ?_ ?_) (fun i=>?_)
  ·first | exact eN | refine eM ?_
  ·first | exact eN | refine eM ?_
  ·obtain ⟨i,hi,hall⟩:=i
   have hstep:=fun h:i < f.length=>all_take1 f ByteArray.empty (fun s=>(introF d s).2) h
   simp only
   repeat' (first | exact trivial | refine eS rfl ?_ | refine ev_out_inv ?_ | refine rX [0,2,3,4,5,6,7,9,10,11,12,13,20,26,30,35,48,52,58,77] hc ?_ ?_ | (refine rC (fun hcond=>?_) (fun hcond=>?_)<;>try (cases hcond;done)))
   ·exact ⟨hcond,hsup,hd⟩
   ·have hi2:i < f.length:=Int.ofNat_lt.1 (by assumption)
    have h2:(f.all fun s=>(introF d s).2)=false:=by
     rw [Bool.eq_false_iff]
     intro h
     have:=List.all_eq_true.1 h _ (mem_of_take_succ f ByteArray.empty hi2)
     rw [show (introF d (f.getD i ByteArray.empty)).2=false from hcond] at this
     cases this
    rw [if_pos h2] at hc5
    exact ev_fin hc [.tmp 2] rfl (.inl rfl) (by simp) (by rw [hc5];first | exact eR | refine eRM ?_)
   ·omega
   ·have hi2:i < f.length:=Int.ofNat_lt.1 (by assumption)
    refine ⟨⟨i + 1,hi2,?_⟩,by simp only;omega,ent_match [] rfl rfl ?_ ?_⟩
    ·rw [hstep hi2,hall]
     exact hcond
    ·first | exact eN | refine eM ?_
    ·first | exact eN | refine eM ?_
   ·have hi2:f.take i=f:=List.take_of_length_le (Int.ofNat_le.1 hcond)
    rw [hi2] at hall
    rw [if_neg (by rw [hall];simp)] at hc5
    refine ev_loop (ι:={t:Nat // t≤l.length∧valBad d l f t=false}) (fun t=>⟨[(0,.p T22 d),(3,.p T138 l),(5,.p T151 f),(10,.p (.int .i64) (t.1:Int))],[]⟩) (fun t=>l.length - t.1) ⟨0,Nat.zero_le _,rfl⟩ (ent_match [] rfl rfl ?_ ?_) (fun t=>?_)
    ·first | exact eN | refine eM ?_
    ·first | exact eN | refine eM ?_
    ·obtain ⟨t,ht,hvb⟩:=t
     have hvs:=valBad_succ d l f t
     simp only
     repeat' (first | exact trivial | refine eS rfl ?_ | refine ev_out_inv ?_ | refine rX [0,2,3,4,5,6,7,9,10,11,12,13,20,26,30,35,48,52,58,77] hc ?_ ?_ | (refine rC (fun hcond=>?_) (fun hcond=>?_)<;>try (cases hcond;done)))
     ·have htl:t < l.length:=Int.ofNat_lt.1 hcond
      refine ev_loop (ι:={k:Nat // k≤f.length∧(f.take k).any (inhBad d l t)=false}) (fun k=>⟨[(0,.p T22 d),(3,.p T138 l),(5,.p T151 f),(10,.p (.int .i64) (t:Int)),(11,.p (.int .i64) (k.1:Int))],[]⟩) (fun k=>f.length - k.1) ⟨0,Nat.zero_le _,rfl⟩ (ent_match [] rfl rfl ?_ ?_) (fun k=>?_)
      ·first | exact eN | refine eM ?_
      ·first | exact eN | refine eM ?_
      ·obtain ⟨k,hk,hany⟩:=k
       have hst:=fun h:k < f.length=>any_take2 f ByteArray.empty (inhBad d l t) h
       simp only
       repeat' (first | exact trivial | refine eS rfl ?_ | refine ev_out_inv ?_ | refine rX [0,2,3,4,5,6,7,9,10,11,12,13,20,26,30,35,48,52,58,77] hc ?_ ?_ | (refine rC (fun hcond=>?_) (fun hcond=>?_)<;>try (cases hcond;done)))
       ·exact ⟨hcond,hnr,by assumption,hll,hwid⟩
       ·have hk2:k < f.length:=Int.ofNat_lt.1 (by assumption)
        have hb:inhBad d l t (f.getD k ByteArray.empty)=true:=by
         unfold inhBad
         rw [Bool.and_eq_true,beq_iff_eq]
         exact hcond
        have hB:valBad d l f l.length=true:=by
         unfold valBad
         rw [List.any_eq_true]
         exact ⟨t,List.mem_range.2 htl,any_of_get2 f ByteArray.empty _ hk2 hb⟩
        rw [if_pos hB] at hc5
        exact ev_fin hc [.tmp 2] rfl (.inl rfl) (by simp) (by rw [hc5];first | exact eR | refine eRM ?_)
       ·omega
       ·have hk2:k < f.length:=Int.ofNat_lt.1 (by assumption)
        have hb:inhBad d l t (f.getD k ByteArray.empty)=false:=by
         rw [Bool.eq_false_iff]
         unfold inhBad
         intro h
         rw [Bool.and_eq_true,beq_iff_eq] at h
         exact hcond h.1 h.2
        refine ⟨⟨k + 1,hk2,?_⟩,by simp only;omega,ent_match [] rfl rfl ?_ ?_⟩
        ·rw [hst hk2,hany,hb]
         rfl
        ·first | exact eN | refine eM ?_
        ·first | exact eN | refine eM ?_
       ·omega
       ·have hk2:f.take k=f:=List.take_of_length_le (Int.ofNat_le.1 hcond)
        rw [hk2] at hany
        refine ⟨⟨t + 1,htl,?_⟩,by simp only;omega,ent_match [] rfl rfl ?_ ?_⟩
        ·rw [hvs,hvb]
         exact hany
        ·first | exact eN | refine eM ?_
        ·first | exact eN | refine eM ?_
     ·have ht2:t=l.length:=by exact eV
      subst ht2
      rw [if_neg (by rw [hvb];simp)] at hc5
      exact ev_fin hc [.tmp 2] rfl (.inl rfl) (by simp) (by rw [hc5];first | exact eR | refine eRM ?_)
end
/- Functions of grammarlabref05: Features. -/
section
attribute [local go_sem] check5S codesS featsS introS numberS
abbrev FeatD:=ByteArray×Int
theorem check5_zero {d:List DeclD} (h:check5F d=0):(codesF d).2=0∧(featsF d).length≤64∧declsF d=0:=by
 unfold check5F at h
 split at h
 ·rename_i h1;exact absurd h h1
 ·rename_i h1
  split at h
  ·cases h
  ·rename_i h2
   split at h
   ·rename_i h3;exact absurd h h3
   ·rename_i h3
    exact ⟨Classical.byContradiction h1,by omega,Classical.byContradiction h3⟩
def featD (d:List DeclD) (s:ByteArray):FeatD:=(s,numberF (codesR d) (introF d s).1)
def featuresF (d:List DeclD):List FeatD×Int:=if check5F d≠0 then ([],check5F d) else ((featsF d).map (featD d),0)
theorem map_take_succ {α β:Type} (f:α→β) (l:List α) (d:α) {k:Nat} (h:k < l.length):(l.take (k + 1)).map f=(l.take k).map f++[f (l.getD k d)]:=by
 rw [take_snoc l d h,List.map_append]
 rfl
theorem map_take_len {α β:Type} (f:α→β) (l:List α) {k:Nat} (h:k≤l.length):((l.take k).map f).length=k:=by simp [h]
def featuresS:Spec:={ ins:=[T22],pre:=fun _=>True,out:=fun (d,_)=>[.p T27 (featuresF d).1,.p T79 (featuresF d).2] }
theorem features_ok:FnOk Tryz.prog 99 featuresS:=by
 refine fn_ok Tryz.func99 (by kernel_rfl) rfl Tryz.ntmps99 (by decide) (by kernel_rfl) (tyTab_ok [(129,check5S),(97,codesS),(130,featsS),(140,introS),(141,numberS)]) (fns_cons check5_ok (fns_cons codes_ok (fns_cons feats_ok (fns_cons intro_ok (fns_cons number_ok fns_nil))))) ?_
 rintro w0 O0 ⟨d,u⟩ hc - -
 simp only [featuresS,entEnv]
 repeat' (first | exact trivial | refine eS rfl ?_ | refine ev_out_inv ?_ | refine rX [0,2,3,4,5,7,8,9,10,15,27] hc ?_ ?_ | (refine rC (fun hcond=>?_) (fun hcond=>?_)<;>try (cases hcond;done)))
 ·have h1:featuresF d=([],check5F d):=by unfold featuresF;rw [if_pos hcond]
  exact ev_fin hc [.tmp 2,.tmp 3] rfl (.inl rfl) (by simp) (by rw [h1];first | exact eR | refine eRM ?_)
 ·have h5:check5F d=0:=by simpa using hcond
  obtain ⟨hz,-,-⟩:=check5_zero h5
  obtain ⟨h3,-,-⟩:=codesF_zero hz
  exact ⟨(check3_zero h3).2.1,fun x hx=>(check3_sizes h3 x hx).2⟩
 ·have h5:check5F d=0:=by simpa using hcond
  obtain ⟨hz,hf64,-⟩:=check5_zero h5
  obtain ⟨h3,-,hl⟩:=codesF_zero hz
  obtain ⟨hsup,hd,-⟩:=check3_zero h3
  have hr:featuresF d=((featsF d).map (featD d),0):=by unfold featuresF;rw [if_neg (by rw [h5];simp)]
  rw [hl]
  generalize featsF d=f at *
  refine ev_loop (ι:={i:Nat // i≤f.length}) (fun i=>⟨[(0,.p T22 d),(5,.p T138 (codesR d)),(7,.p T151 f),(8,.sr 49 T201 0 ((f.take i.1).map (featD d)).length),(9,.p (.int .i64) (i.1:Int))],[(49,.arr 201 T201 ((f.take i.1).map (featD d)))]⟩) (fun i=>f.length - i.1) ⟨0,Nat.zero_le _⟩ (ent_match [(49,.nil)] rfl rfl ?_ ?_) (fun i=>?_)
  ·first | exact eN | refine eM ?_
  ·first | exact eN | refine eM ?_
  ·obtain ⟨i,hi⟩:=i
   have hlen:=map_take_len (featD d) f hi
   have hs:=fun h:i < f.length=>map_take_succ (featD d) f ByteArray.empty h
   simp only
   repeat' (first | exact trivial | refine eS rfl ?_ | refine ev_out_inv ?_ | refine rX [0,2,3,4,5,7,8,9,10,15,27] hc ?_ ?_ | (refine rC (fun hcond=>?_) (fun hcond=>?_)<;>try (cases hcond;done)))
   ·exact ⟨hcond,hsup,hd⟩
   ·refine ⟨hcond,?_⟩
    rw [hlen]
    simp only [maxN]
    omega
   ·omega
   ·have hi2:i < f.length:=Int.ofNat_lt.1 hcond
    have e:=hs hi2
    refine ⟨⟨i + 1,hi2⟩,by simp only;omega,ent_match [(49,.nm 49)] rfl rfl ?_ ?_⟩
    ·simp only [e]
     first | exact eN | refine eM ?_
     rfl
    ·simp only [e]
     first | exact eN | refine eM ?_
   ·have hi2:f.take i=f:=List.take_of_length_le (Int.ofNat_le.1 hcond)
    rw [hi2]
    refine frzE [49] ?_
    exact ev_fin hc [.tmp 2,.tmp 3] rfl (.inl rfl) (by simp) (by rw [hr];first | exact eR | refine eRM ?_)
end
/- Functions of grammarlabref05: Values. -/
section
attribute [local go_sem] check5S codesS featsS inhS findCS
def oneG (d:List DeclD) (l:List CodedD) (f:List ByteArray) (t:Nat) (n:Nat):List (Int×Int) :=
 ((List.range n).filter fun (i:Nat)=>(inhF d l (t:Int) (f.getD i ByteArray.empty)).2).map fun (i:Nat)=>((i:Int),findCF l (inhF d l (t:Int) (f.getD i ByteArray.empty)).1)
def valsG (d:List DeclD) (l:List CodedD) (f:List ByteArray) (n:Nat):List (List (Int×Int)):=(List.range n).map fun t=>oneG d l f t f.length
def valuesF (d:List DeclD):List (List (Int×Int))×Int:=if check5F d≠0 then ([],check5F d) else (valsG d (codesR d) (featsF d) (codesR d).length,0)
theorem oneG_succ (d:List DeclD) (l:List CodedD) (f:List ByteArray) (t n:Nat):oneG d l f t (n + 1)=oneG d l f t n++if (inhF d l (t:Int) (f.getD n ByteArray.empty)).2=true then [((n:Int),findCF l (inhF d l (t:Int) (f.getD n ByteArray.empty)).1)] else []:=by
 unfold oneG
 rw [List.range_succ,List.filter_append,List.map_append]
 congr 1
 rw [List.filter_cons,List.filter_nil]
 split<;>rfl
theorem oneG_len (d:List DeclD) (l:List CodedD) (f:List ByteArray) (t n:Nat):(oneG d l f t n).length≤n:=by
 unfold oneG
 rw [List.length_map]
 exact Nat.le_trans (List.length_filter_le _ _) (by simp)
theorem valsG_succ (d:List DeclD) (l:List CodedD) (f:List ByteArray) (n:Nat):valsG d l f (n + 1)=valsG d l f n++[oneG d l f n f.length]:=by simp [valsG,List.range_succ]
theorem valsG_len (d:List DeclD) (l:List CodedD) (f:List ByteArray) (n:Nat):(valsG d l f n).length=n:=by simp [valsG]
theorem inhF_wid {d:List DeclD} {l:List CodedD} (h:∀ x∈l,x.2.length≤64) (t:Int) (s:ByteArray):(inhF d l t s).1.length≤64:=by
 unfold inhF
 refine inhs_len t s d ?_
 rw [List.getD_eq_getElem?_getD]
 cases hh:l[0]? with
 | none=>simp
 | some x=>exact h x (List.mem_of_getElem? hh)
def values5S:Spec:={ ins:=[T22],pre:=fun _=>True,out:=fun (d,_)=>[.p T135 (valuesF d).1,.p T79 (valuesF d).2] }
theorem values5_ok:FnOk Tryz.prog 96 values5S:=by
 refine fn_ok Tryz.func96 (by kernel_rfl) rfl Tryz.ntmps96 (by decide) (by kernel_rfl) (tyTab_ok [(129,check5S),(97,codesS),(130,featsS),(131,inhS),(132,findCS)]) (fns_cons check5_ok (fns_cons codes_ok (fns_cons feats_ok (fns_cons inh_ok (fns_cons findC_ok fns_nil))))) ?_
 rintro w0 O0 ⟨d,u⟩ hc - -
 simp only [values5S,entEnv]
 repeat' (first | exact trivial | refine eS rfl ?_ | refine ev_out_inv ?_ | refine rX [0,2,3,4,5,7,8,9,10,11,12,13,17,29,35,49] hc ?_ ?_ | (refine rC (fun hcond=>?_) (fun hcond=>?_)<;>try (cases hcond;done)))
 ·have h1:valuesF d=([],check5F d):=by unfold valuesF;rw [if_pos hcond]
  exact ev_fin hc [.tmp 2,.tmp 3] rfl (.inl rfl) (by simp) (by rw [h1];first | exact eR | refine eRM ?_)
 ·have h5:check5F d=0:=by simpa using hcond
  obtain ⟨hz,-,-⟩:=check5_zero h5
  obtain ⟨h3,-,-⟩:=codesF_zero hz
  exact ⟨(check3_zero h3).2.1,fun x hx=>(check3_sizes h3 x hx).2⟩
 ·have h5:check5F d=0:=by simpa using hcond
  obtain ⟨hz,hf64,hdz⟩:=check5_zero h5
  obtain ⟨h3,hlen,hl⟩:=codesF_zero hz
  obtain ⟨hsup,hd,-⟩:=check3_zero h3
  have hr:valuesF d=(valsG d (codesR d) (featsF d) (codesR d).length,0):=by unfold valuesF;rw [if_neg (by rw [h5];simp)]
  have hnr:=nrOk_of h3 hdz
  have hwid:=codesR_wid h3
  have hll:(codesR d).length≤256:=by rw [codesR_len];exact hlen
  rw [hl]
  generalize codesR d=l at *
  generalize featsF d=f at *
  have hiw:=fun t s=>inhF_wid (d:=d) hwid t s
  refine ev_loop (ι:={t:Nat // t≤l.length}) (fun t=>⟨[(0,.p T22 d),(5,.p T138 l),(7,.p T151 f),(8,.sr 61 T146 0 (valsG d l f t.1).length),(9,.p (.int .i64) (t.1:Int))],[(61,.arr 146 T146 (valsG d l f t.1))]⟩) (fun t=>l.length - t.1) ⟨0,Nat.zero_le _⟩ (ent_match [(61,.nil)] rfl rfl ?_ ?_) (fun t=>?_)
  ·first | exact eN | refine eM ?_
   rfl
  ·first | exact eN | refine eM ?_
   rfl
  ·obtain ⟨t,ht⟩:=t
   have hlen:=valsG_len d l f t
   have hs:=valsG_succ d l f t
   simp only
   repeat' (first | exact trivial | refine eS rfl ?_ | refine ev_out_inv ?_ | refine rX [0,2,3,4,5,7,8,9,10,11,12,13,17,29,35,49] hc ?_ ?_ | (refine rC (fun hcond=>?_) (fun hcond=>?_)<;>try (cases hcond;done)))
   ·refine ev_loop (ι:={i:Nat // i≤f.length}) (fun i=>⟨[(0,.p T22 d),(5,.p T138 l),(7,.p T151 f),(8,.sr 61 T146 0 (valsG d l f t).length),(9,.p (.int .i64) (t:Int)),(10,.sr 57 T190 0 (oneG d l f t i.1).length),(11,.p (.int .i64) (i.1:Int))],[(61,.arr 146 T146 (valsG d l f t)),(57,.arr 190 T190 (oneG d l f t i.1))]⟩) (fun i=>f.length - i.1) ⟨0,Nat.zero_le _⟩ (ent_match [(61,.nm 61),(57,.nil)] rfl rfl ?_ ?_) (fun i=>?_)
    ·first | exact eN | refine eM ?_
     rfl
    ·first | exact eN | refine eM ?_
     rfl
    ·obtain ⟨i,hi⟩:=i
     have hol:=oneG_len d l f t i
     have hos:=oneG_succ d l f t i
     simp only
     repeat' (first | exact trivial | refine eS rfl ?_ | refine ev_out_inv ?_ | refine rX [0,2,3,4,5,7,8,9,10,11,12,13,17,29,35,49] hc ?_ ?_ | (refine rC (fun hcond=>?_) (fun hcond=>?_)<;>try (cases hcond;done)))
     ·exact ⟨hcond,hnr,by assumption,hll,hwid⟩
     ·refine ⟨Nat.le_trans (hiw _ _) (by decide),?_⟩
      simp only [maxN]
      omega
     ·omega
     ·have hi2:i < f.length:=Int.ofNat_lt.1 (by assumption)
      rw [if_pos hcond] at hos
      refine ⟨⟨i + 1,hi2⟩,by simp only;omega,ent_match [(61,.nm 61),(57,.nm 57)] rfl rfl ?_ ?_⟩
      ·simp only [hos]
       first | exact eN | refine eM ?_
      ·simp only [hos]
       first | exact eN | refine eM ?_
     ·omega
     ·have hi2:i < f.length:=Int.ofNat_lt.1 (by assumption)
      rw [if_neg (by rw [hcond];simp),List.append_nil] at hos
      refine ⟨⟨i + 1,hi2⟩,by simp only;omega,ent_match [(61,.nm 61),(57,.nm 57)] rfl rfl ?_ ?_⟩
      ·simp only [hos]
       first | exact eN | refine eM ?_
      ·simp only [hos]
       first | exact eN | refine eM ?_
     ·rw [hlen]
      simp only [maxN]
      omega
     ·omega
     ·have ht2:t < l.length:=Int.ofNat_lt.1 (by assumption)
      have hi2:i=f.length:=by omega
      subst hi2
      refine ⟨⟨t + 1,ht2⟩,by simp only;omega,ent_match [(61,.nm 61)] rfl rfl ?_ ?_⟩
      ·simp only [hs]
       first | exact eN | refine eM ?_
      ·simp only [hs]
       first | exact eN | refine eM ?_
   ·have ht2:t=l.length:=by omega
    subst ht2
    refine frzE [61] ?_
    exact ev_fin hc [.tmp 2,.tmp 3] rfl (.inl rfl) (by simp) (by rw [hr];first | exact eR | refine eRM ?_)
end
/- Functions of grammarlabref06: decl. -/
section
attribute [local go_sem] cs0
def pairG (l:List ByteArray) (n:Nat):List FV:=(List.range n).map fun k=>(l.getD (2 * k) ByteArray.empty,l.getD (2 * k + 1) ByteArray.empty)
theorem pairG_succ (l:List ByteArray) (n:Nat):pairG l (n + 1)=pairG l n++[(l.getD (2 * n) ByteArray.empty,l.getD (2 * n + 1) ByteArray.empty)]:=by simp [pairG,List.range_succ]
theorem pairG_len (l:List ByteArray) (n:Nat):(pairG l n).length=n:=by simp [pairG]
def declSup (s:ByteArray):List ByteArray:=if strEq s ByteArray.empty=true then [] else [s]
def declF (n s:ByteArray) (l:List ByteArray):DeclD:=(n,declSup s,pairG l (l.length / 2))
def declS:Spec:={ ins:=[T9,T9,T151],pre:=fun (_,_,l,_)=>List.length l≤1000,out:=fun (n,s,l,_)=>[.p T154 (declF n s l)] }
theorem decl_ok:FnOk Tryz.prog 100 declS:=by
 refine fn_ok Tryz.func100 (by kernel_rfl) rfl Tryz.ntmps100 (by decide) (by kernel_rfl) (tyTab_ok []) fns_nil ?_
 rintro w0 O0 ⟨n,s,l,u⟩ hc - hl
 have hl:l.length≤1000:=hl
 simp only [declS,entEnv]
 repeat' (first | exact trivial | refine eS rfl ?_ | refine ev_out_inv ?_ | refine rX [0,1,2,6,7,8,12,20] hc ?_ ?_ | (refine rC (fun hcond=>?_) (fun hcond=>?_)<;>try (cases hcond;done)))
 ·have hcd:=hcond
  refine frzE [14] ?_
  refine ev_loop (ι:={k:Nat // 2 * k≤l.length}) (fun k=>⟨[(2,.p T151 l),(6,.bp 6 [] 0),(7,.bp 7 [] 0),(8,.p (.int .i64) ((2 * k.1:Nat):Int))],[(6,.box 154 true [.p T9 ByteArray.empty,.raw (.slice none 0 0),.raw (.slice none 0 0)]),(7,.box 154 true [.p T9 n,.p T151 [s],.sr 36 T157 0 (pairG l k.1).length]),(36,.arr 157 T157 (pairG l k.1))]⟩) (fun k=>l.length - 2 * k.1) ⟨0,Nat.zero_le _⟩ (ent_match [(6,.nm 6),(7,.nm 7),(36,.nil)] rfl rfl ?_ ?_) (fun k=>?_)
  ·first | exact eN | refine eM ?_
   exact ⟨rfl,rfl⟩
  ·first | exact eN | refine eM ?_
  ·obtain ⟨k,hk⟩:=k
   have hpl:=pairG_len l k
   have hps:=pairG_succ l k
   simp only
   repeat' (first | exact trivial | refine eS rfl ?_ | refine ev_out_inv ?_ | refine rX [0,1,2,6,7,8,12,20] hc ?_ ?_ | (refine rC (fun hcond=>?_) (fun hcond=>?_)<;>try (cases hcond;done)))
   ·exact eV
   ·refine ⟨by exact eV,⟨by exact eV,by exact eV⟩,⟨by exact eV,by exact eV⟩,?_⟩
    rw [hpl]
    simp only [maxN]
    exact eV
   ·exact eV
   ·have hk2:2 * k + 1 < l.length:=by exact eV
    have e1:((2 * k:Nat):Int) + 1=((2 * k + 1:Nat):Int):=by omega
    refine ⟨⟨k + 1,by omega⟩,by simp only;omega,ent_match [(6,.nm 6),(7,.nm 7),(36,.nm 36)] rfl rfl ?_ ?_⟩
    ·simp only [hps]
     first | exact eN | refine eM ?_
     rw [e1]
     rfl
    ·simp only [hps]
     first | exact eN | refine eM ?_
     show ((2 * k:Nat):Int) + 2=((2 * (k + 1):Nat):Int)
     omega
   ·have hk2:k=l.length / 2:=by exact eV
    refine frzE [36] ?_
    have hr:declF n s l=(n,[s],pairG l k):=by
     unfold declF declSup
     rw [← hk2,if_neg (by rw [show strEq s ByteArray.empty=false from hcd];simp)]
    exact ev_fin hc [.cell 6 154] rfl (.inl rfl) (by simp) (by rw [hr];first | exact eR | refine eRM ?_)
 ·have hcd:=hcond
  refine ev_loop (ι:={k:Nat // 2 * k≤l.length}) (fun k=>⟨[(2,.p T151 l),(6,.bp 6 [] 0),(7,.bp 7 [] 0),(8,.p (.int .i64) ((2 * k.1:Nat):Int))],[(6,.box 154 true [.p T9 ByteArray.empty,.raw (.slice none 0 0),.raw (.slice none 0 0)]),(7,.box 154 true [.p T9 n,.p T151 ([]:List ByteArray),.sr 36 T157 0 (pairG l k.1).length]),(36,.arr 157 T157 (pairG l k.1))]⟩) (fun k=>l.length - 2 * k.1) ⟨0,Nat.zero_le _⟩ (ent_match [(6,.nm 6),(7,.nm 7),(36,.nil)] rfl rfl ?_ ?_) (fun k=>?_)
  ·first | exact eN | refine eM ?_
   exact ⟨rfl,rfl⟩
  ·first | exact eN | refine eM ?_
  ·obtain ⟨k,hk⟩:=k
   have hpl:=pairG_len l k
   have hps:=pairG_succ l k
   simp only
   repeat' (first | exact trivial | refine eS rfl ?_ | refine ev_out_inv ?_ | refine rX [0,1,2,6,7,8,12,20] hc ?_ ?_ | (refine rC (fun hcond=>?_) (fun hcond=>?_)<;>try (cases hcond;done)))
   ·exact eV
   ·refine ⟨by exact eV,⟨by exact eV,by exact eV⟩,⟨by exact eV,by exact eV⟩,?_⟩
    rw [hpl]
    simp only [maxN]
    exact eV
   ·exact eV
   ·have hk2:2 * k + 1 < l.length:=by exact eV
    have e1:((2 * k:Nat):Int) + 1=((2 * k + 1:Nat):Int):=by omega
    refine ⟨⟨k + 1,by omega⟩,by simp only;omega,ent_match [(6,.nm 6),(7,.nm 7),(36,.nm 36)] rfl rfl ?_ ?_⟩
    ·simp only [hps]
     first | exact eN | refine eM ?_
     rw [e1]
     rfl
    ·simp only [hps]
     first | exact eN | refine eM ?_
     show ((2 * k:Nat):Int) + 2=((2 * (k + 1):Nat):Int)
     omega
   ·have hk2:k=l.length / 2:=by exact eV
    refine frzE [36] ?_
    have hr:declF n s l=(n,([]:List ByteArray),pairG l k):=by
     unfold declF declSup
     rw [← hk2,if_pos (show strEq s ByteArray.empty=true from hcd)]
    exact ev_fin hc [.cell 6 154] rfl (.inl rfl) (by simp) (by rw [hr];first | exact eR | refine eRM ?_)
end
/- Functions of grammarlabref06: Prelude. -/
section
attribute [local go_sem] declS cs0 cs1 cs2 cs3 cs4 cs5 cs6 cs7 cs8
def preludeF:List DeclD:=[
 declF { data:=#[116,111,112] } { data:=#[] } [],
 declF { data:=#[108,105,115,116] } { data:=#[116,111,112] } [],
 declF { data:=#[99,111,110,115] } { data:=#[108,105,115,116] } [{ data:=#[70,73,82,83,84] },{ data:=#[116,111,112] },{ data:=#[82,69,83,84] },{ data:=#[108,105,115,116] }],
 declF { data:=#[110,117,108,108] } { data:=#[108,105,115,116] } [],
 declF { data:=#[100,108,105,115,116] } { data:=#[116,111,112] } [{ data:=#[76,73,83,84] },{ data:=#[108,105,115,116] },{ data:=#[76,65,83,84] },{ data:=#[108,105,115,116] }],
 declF { data:=#[105,110,100,101,120] } { data:=#[116,111,112] } [],
 declF { data:=#[104,97,110,100,108,101] } { data:=#[105,110,100,101,120] } [],
 declF { data:=#[101,118,101,110,116] } { data:=#[105,110,100,101,120] } [],
 declF { data:=#[101,110,116,105,116,121] } { data:=#[105,110,100,101,120] } [],
 declF { data:=#[114,101,108] } { data:=#[116,111,112] } [{ data:=#[76,65,66,69,76] },{ data:=#[104,97,110,100,108,101] }],
 declF { data:=#[113,101,113] } { data:=#[116,111,112] } [{ data:=#[72,73,71,72] },{ data:=#[104,97,110,100,108,101] },{ data:=#[76,79,87] },{ data:=#[104,97,110,100,108,101] }],
 declF { data:=#[115,101,109] } { data:=#[116,111,112] } [{ data:=#[84,79,80] },{ data:=#[104,97,110,100,108,101] },{ data:=#[73,78,68,69,88] },{ data:=#[105,110,100,101,120] },{ data:=#[82,69,76,83] },{ data:=#[100,108,105,115,116] },{ data:=#[67,79,78,83] },{ data:=#[100,108,105,115,116] }],
 declF { data:=#[115,105,103,110] } { data:=#[116,111,112] } [{ data:=#[83,69,77] },{ data:=#[115,101,109] },{ data:=#[65,82,71,83] },{ data:=#[108,105,115,116] }]]
def preludeS:Spec:={ ins:=[],pre:=fun _=>True,out:=fun _=>[.p T22 preludeF] }
theorem prelude_ok:FnOk Tryz.prog 53 preludeS:=by
 refine fn_ok Tryz.func53 (by kernel_rfl) rfl Tryz.ntmps53 (by decide) (by kernel_rfl) (tyTab_ok [(100,declS)] [3,6,12,14,16,18,20]) (fns_cons decl_ok fns_nil) ?_
 rintro w0 O0 u hc - -
 simp only [preludeS,entEnv]
 repeat' (first | exact trivial | refine eS rfl ?_ | refine ev_out_inv ?_ | refine rX [0] hc ?_ ?_ | (refine rC (fun hcond=>?_) (fun hcond=>?_)<;>try (cases hcond;done)))
 exact ev_fin hc [.tmp 0] rfl (.inl rfl) (by simp) (by unfold preludeF;first | exact eR | refine eRM ?_)
end
/- Functions of grammarlabref06: Compile. -/
section
attribute [local go_sem] values5S codesS supsS featuresS
abbrev TypeD:=ByteArray×List Int×List Int×List (Int×Int)
abbrev HierD:=List TypeD×List FeatD
def typeG (l:List CodedD) (v:List (List (Int×Int))) (n:Nat):List TypeD:=(List.range n).map fun i=>((l.getD i c0).1,(l.getD i c0).2,supsF l (i:Int),v.getD i [])
theorem typeG_succ (l:List CodedD) (v:List (List (Int×Int))) (n:Nat):typeG l v (n + 1)=typeG l v n++[((l.getD n c0).1,(l.getD n c0).2,supsF l (n:Int),v.getD n [])]:=by simp [typeG,List.range_succ]
theorem typeG_len (l:List CodedD) (v:List (List (Int×Int))) (n:Nat):(typeG l v n).length=n:=by simp [typeG]
def hierV (d:List DeclD):HierD:=(typeG (codesR d) (valuesF d).1 (codesR d).length,(featuresF d).1)
def compileF (d:List DeclD):HierD×Int:=if (valuesF d).2≠0 then (([],[]),(valuesF d).2) else (hierV d,0)
def compileS:Spec:={ ins:=[T22],pre:=fun _=>True,out:=fun (d,_)=>[.p T29 (compileF d).1,.p T79 (compileF d).2] }
theorem compile_ok:FnOk Tryz.prog 52 compileS:=by
 refine fn_ok Tryz.func52 (by kernel_rfl) rfl Tryz.ntmps52 (by decide) (by kernel_rfl) (tyTab_ok [(96,values5S),(97,codesS),(98,supsS),(99,featuresS)]) (fns_cons values5_ok (fns_cons codes_ok (fns_cons sups_ok (fns_cons features_ok fns_nil)))) ?_
 rintro w0 O0 ⟨d,u⟩ hc - -
 simp only [compileS,entEnv]
 repeat' (first | exact trivial | refine eS rfl ?_ | refine ev_out_inv ?_ | refine rX [0,2,3,4,5,6,8,9,10,18,29] hc ?_ ?_ | (refine rC (fun hcond=>?_) (fun hcond=>?_)<;>try (cases hcond;done)))
 ·have h1:compileF d=(([],[]),(valuesF d).2):=by unfold compileF;rw [if_pos hcond]
  exact ev_fin hc [.cell 2 29,.tmp 3] rfl (.inl rfl) (by simp) (by rw [h1];first | exact eR | refine eRM ?_)
 ·have hv:(valuesF d).2=0:=by simpa using hcond
  have h5:check5F d=0:=by
   unfold valuesF at hv
   split at hv
   ·rename_i h;exact absurd hv h
   ·rename_i h;exact Classical.byContradiction h
  obtain ⟨hz,hf64,hdz⟩:=check5_zero h5
  obtain ⟨h3,hlen,hl⟩:=codesF_zero hz
  have hr:compileF d=(hierV d,0):=by unfold compileF;rw [if_neg (by rw [hv];simp)]
  have hvl:(valuesF d).1.length=(codesR d).length:=by
   unfold valuesF
   rw [if_neg (by rw [h5];simp)]
   exact valsG_len _ _ _ _
  have hwid:=codesR_wid h3
  have hll:(codesR d).length≤256:=by rw [codesR_len];exact hlen
  unfold hierV at hr
  rw [hl]
  generalize codesR d=l at *
  generalize (valuesF d).1=v at *
  refine ev_loop (ι:={n:Nat // n≤l.length}) (fun n=>⟨[(0,.p T22 d),(2,.bp 2 [] 0),(4,.p T135 v),(6,.p T138 l),(8,.bp 8 [] 0),(9,.p (.int .i64) (n.1:Int))],[(2,.box 29 true [.raw (.slice none 0 0),.raw (.slice none 0 0)]),(8,.box 29 true [.sr 53 T148 0 (typeG l v n.1).length,.raw (.slice none 0 0)]),(53,.arr 148 T148 (typeG l v n.1))]⟩) (fun n=>l.length - n.1) ⟨0,Nat.zero_le _⟩ (ent_match [(2,.nm 2),(8,.nm 8),(53,.nil)] rfl rfl ?_ ?_) (fun n=>?_)
  ·first | exact eN | refine eM ?_
   exact ⟨rfl,rfl⟩
  ·first | exact eN | refine eM ?_
  ·obtain ⟨n,hn⟩:=n
   have htl:=typeG_len l v n
   have hts:=typeG_succ l v n
   simp only
   repeat' (first | exact trivial | refine eS rfl ?_ | refine ev_out_inv ?_ | refine rX [0,2,3,4,5,6,8,9,10,18,29] hc ?_ ?_ | (refine rC (fun hcond=>?_) (fun hcond=>?_)<;>try (cases hcond;done)))
   ·refine ⟨hcond,hcond,⟨hcond,hll,hwid⟩,by rw [hvl];exact hcond,?_⟩
    rw [htl]
    simp only [maxN]
    omega
   ·omega
   ·have hn2:n < l.length:=Int.ofNat_lt.1 hcond
    refine ⟨⟨n + 1,hn2⟩,by simp only;omega,ent_match [(2,.nm 2),(8,.nm 8),(53,.nm 53)] rfl rfl ?_ ?_⟩
    ·simp only [hts]
     first | exact eN | refine eM ?_
    ·simp only [hts]
     first | exact eN | refine eM ?_
   ·have hn2:n=l.length:=by omega
    subst hn2
    refine frzE [53] ?_
    exact ev_fin hc [.cell 2 29,.tmp 3] rfl (.inl rfl) (by simp) (by rw [hr];first | exact eR | refine eRM ?_)
end
/- Functions of bits: word, Subset; hier: Subsumes. -/
section
def wordPS:Spec:={ ins:=[T142,T3],pre:=fun (_,i,_)=>(0:Int)≤i,out:=fun (b,i,_)=>[.p T209 (wordF b i)],lend:=true }
attribute [local go_sem] wordPS
theorem wordP_ok:FnOk Tryz.prog 192 wordPS:=by
 refine fn_ok Tryz.func192 (by kernel_rfl) rfl Tryz.ntmps192 (by decide) (by kernel_rfl) (tyTab_ok []) fns_nil ?_
 rintro w0 O0 ⟨b,i,u⟩ hc - hi
 simp only [wordPS,entEnv]
 repeat' (first | exact trivial | refine eS rfl ?_ | refine ev_out_inv ?_ | refine rX [0,1,4,8] hc ?_ ?_ | (refine rC (fun hcond=>?_) (fun hcond=>?_)<;>try (cases hcond;done)))
 ·exact ⟨hi,hcond⟩
 ·have h1:wordF b i=b.getD i.toNat 0:=by unfold wordF;rw [if_pos hcond]
  exact ev_fin hc [.tmp 4] rfl (.inl rfl) (by simp) (by rw [h1];first | exact eR | refine eRM ?_)
 ·have h1:wordF b i=0:=by unfold wordF;rw [if_neg (Int.not_lt.2 hcond)]
  exact ev_fin hc [.tmp 4] rfl (.inl rfl) (by simp) (by rw [h1];first | exact eR | refine eRM ?_)
def subPF (a b:List Int):Bool:=(List.range a.length).all fun i=>bitsV .andNot .u64 (a.getD i 0) (wordF b (i:Int)) == 0
def subPG (a b:List Int) (n:Nat):Bool:=(List.range n).all fun i=>bitsV .andNot .u64 (a.getD i 0) (wordF b (i:Int)) == 0
theorem subPG_succ (a b:List Int) (n:Nat):subPG a b (n + 1)=(subPG a b n && bitsV .andNot .u64 (a.getD n 0) (wordF b (n:Int)) == 0):=by
 unfold subPG
 rw [List.range_succ,List.all_append]
 simp
def subsetPS:Spec:={ ins:=[T142,T142],pre:=fun _=>True,out:=fun (a,b,_)=>[.p .bool (subPF a b)],lend:=true }
attribute [local go_sem] subsetPS
theorem subsetP_ok:FnOk Tryz.prog 148 subsetPS:=by
 refine fn_ok Tryz.func148 (by kernel_rfl) rfl Tryz.ntmps148 (by decide) (by kernel_rfl) (tyTab_ok [(192,wordPS)]) (fns_cons wordP_ok fns_nil) ?_
 rintro w0 O0 ⟨a,b,u⟩ hc ⟨⟨hal,-⟩,-⟩ -
 simp only [maxN] at hal
 simp only [subsetPS,entEnv]
 repeat' (first | exact trivial | refine eS rfl ?_ | refine ev_out_inv ?_ | refine rX [0,1,4,5,6,7,8,9,10,19] hc ?_ ?_ | (refine rC (fun hcond=>?_) (fun hcond=>?_)<;>try (cases hcond;done)))
 have hfp:subPF a b=subPG a b a.length:=rfl
 refine ev_loop (ι:={n:Nat // n≤a.length∧subPG a b n=true}) (fun n=>⟨[(1,.p T142 b),(7,.p T142 a),(8,.p (.int .i64) (a.length:Int)),(9,.p (.int .i64) (n.1:Int))],[]⟩) (fun n=>a.length - n.1) ⟨0,Nat.zero_le _,rfl⟩ (ent_match [] rfl rfl ?_ ?_) (fun n=>?_)
 ·first | exact eN | refine eM ?_
 ·first | exact eN | refine eM ?_
 ·obtain ⟨n,hn,hall⟩:=n
  have hs:=subPG_succ a b n
  simp only
  repeat' (first | exact trivial | refine eS rfl ?_ | refine ev_out_inv ?_ | refine rX [0,1,4,5,6,7,8,9,10,19] hc ?_ ?_ | (refine rC (fun hcond=>?_) (fun hcond=>?_)<;>try (cases hcond;done)))
  ·exact hcond
  ·have hn2:n < a.length:=by exact eV
   have h1:subPF a b=false:=by
    unfold subPF
    rw [List.all_eq_false]
    exact ⟨n,List.mem_range.2 hn2,by simpa using hcond⟩
   exact ev_fin hc [.tmp 4] rfl (.inl rfl) (by simp) (by rw [h1];first | exact eR | refine eRM ?_)
  ·exact eV
  ·have hn2:n < a.length:=by exact eV
   refine ⟨⟨n + 1,hn2,?_⟩,by simp only;omega,ent_match [] rfl rfl ?_ ?_⟩
   ·rw [hs,hall]
    simpa using hcond
   ·first | exact eN | refine eM ?_
   ·first | exact eN | refine eM ?_
  ·have hn2:n=a.length:=by exact eV
   subst hn2
   exact ev_fin hc [.tmp 4] rfl (.inl rfl) (by simp) (by rw [hfp,hall];first | exact eR | refine eRM ?_)
abbrev t0D:TypeD:=(ByteArray.empty,[],[],[])
def hsubF (h:HierD) (a b:Int):Bool:=subPF (h.1.getD b.toNat t0D).2.1 (h.1.getD a.toNat t0D).2.1
end
/- Functions of bits: normal, And, Equal; hier: Meet. -/
section
attribute [local go_sem] subsetPS
def normalPS:Spec:={ ins:=[T142],pre:=fun (b,_)=>List.length b≤100000,out:=fun (b,_)=>[.p T142 (normalF b)] }
attribute [local go_sem] normalPS
theorem normalP_ok:FnOk Tryz.prog 147 normalPS:=by
 refine fn_ok Tryz.func147 (by kernel_rfl) rfl Tryz.ntmps147 (by decide) (by kernel_rfl) (tyTab_ok []) fns_nil ?_
 rintro w0 O0 ⟨b,u⟩ hc - hb
 have hb:b.length≤100000:=hb
 simp only [normalPS,entEnv]
 repeat' (first | exact trivial | refine eS rfl ?_ | refine ev_out_inv ?_ | refine rX [0,2,3,15] hc ?_ ?_ | (refine rC (fun hcond=>?_) (fun hcond=>?_)<;>try (cases hcond;done)))
 refine ev_loop (ι:={n:Nat // n≤b.length∧normN b n=normN b b.length}) (fun n=>⟨[(0,.p T142 b),(3,.p (.int .i64) (n.1:Int))],[]⟩) (fun n=>n.1) ⟨b.length,Nat.le_refl _,rfl⟩ (ent_match [] rfl rfl ?_ ?_) (fun n=>?_)
 ·first | exact eN | refine eM ?_
 ·first | exact eN | refine eM ?_
 ·obtain ⟨n,hn,hg⟩:=n
  simp only
  repeat' (first | exact trivial | refine eS rfl ?_ | refine ev_out_inv ?_ | refine rX [0,2,3,15] hc ?_ ?_ | (refine rC (fun hcond=>?_) (fun hcond=>?_)<;>try (cases hcond;done)))
  ·constructor
   ·exact eV
   ·intro h
    refine ⟨?_,?_⟩<;>exact eV
  ·exact eV
  ·obtain ⟨h1,h2⟩:=hcond
   obtain ⟨m,rfl⟩:∃ m,n=m + 1:=⟨n - 1,by omega⟩
   have e:(((m + 1:Nat):Int) - 1)=(m:Int):=by omega
   rw [e] at h2
   have h2:b.getD m 0=0:=h2
   have hg2:normN b m=normN b b.length:=by
    rw [← hg]
    show _=if b.getD m 0=0 then normN b m else m + 1
    rw [if_pos h2]
   refine ⟨⟨m,by omega,hg2⟩,by simp,ent_match [] rfl rfl ?_ ?_⟩
   ·first | exact eN | refine eM ?_
   ·simp only [e]
    first | exact eN | refine eM ?_
  ·exact Int.ofNat_le.2 hn
  ·have hend:normN b n=n:=by
    cases n with
    | zero=>rfl
    | succ m =>
     have e:(((m + 1:Nat):Int) - 1)=(m:Int):=by omega
     rw [e] at hcond
     have h2:=hcond (by omega)
     have h2:¬ b.getD m 0=0:=h2
     show (if b.getD m 0=0 then normN b m else m + 1)=m + 1
     rw [if_neg h2]
   have h1:normalF b=b.take n:=by unfold normalF;rw [← hg,hend]
   rw [← h1]
   exact ev_fin hc [.tmp 2] rfl (.inl rfl) (by simp) (by first | exact eR | refine eRM ?_)
def fillX (g:Nat→Int) (n i:Nat):List Int:=(List.range n).map fun j=>if j < i then g j else 0
theorem fillX_len (g:Nat→Int) (n i:Nat):(fillX g n i).length=n:=by simp [fillX]
theorem fillX_zero (g:Nat→Int) (n:Nat):fillX g n 0=List.replicate n 0:=by
 apply List.ext_getElem
 ·simp [fillX]
 ·intro j h1 h2
  simp [fillX]
theorem fillX_set (g:Nat→Int) (n i:Nat):(fillX g n i).set i (g i)=fillX g n (i + 1):=by
 apply List.ext_getElem
 ·simp [fillX]
 ·intro j h1 h2
  simp only [fillX,List.getElem_set,List.getElem_map,List.getElem_range]
  split
  ·rename_i e;rw [if_pos (by omega),e]
  ·rename_i e
   by_cases hj:j < i
   ·rw [if_pos hj,if_pos (by omega)]
   ·rw [if_neg hj,if_neg (by omega)]
def andW (a b:List Int) (i:Nat):Int:=bitsV .and .u64 (a.getD i 0) (b.getD i 0)
def andPF (a b:List Int):List Int:=normalF (fillX (andW a b) (min a.length b.length) (min a.length b.length))
def andPS:Spec:={ ins:=[T142,T142],pre:=fun (a,_,_)=>List.length a≤100000,out:=fun (a,b,_)=>[.p T142 (andPF a b)] }
attribute [local go_sem] andPS
theorem andP_ok:FnOk Tryz.prog 112 andPS:=by
 refine fn_ok Tryz.func112 (by kernel_rfl) rfl Tryz.ntmps112 (by decide) (by kernel_rfl) (tyTab_ok [(147,normalPS)]) (fns_cons normalP_ok fns_nil) ?_
 rintro w0 O0 ⟨a,b,u⟩ hc - ha
 have ha:a.length≤100000:=ha
 simp only [andPS,entEnv]
 repeat' (first | exact trivial | refine eS rfl ?_ | refine ev_out_inv ?_ | refine rX [0,1,4,5,6,14,15,16] hc ?_ ?_ | (refine rC (fun hcond=>?_) (fun hcond=>?_)<;>try (cases hcond;done)))
 ·split<;>simp only [maxN]<;>dsimp only [Ty.den] at *<;>omega
 ·have hmin:Int.toNat (if ((List.length b:Nat):Int) < ((List.length a:Nat):Int) then ((List.length b:Nat):Int) else ((List.length a:Nat):Int))=min (List.length a) (List.length b):=by split<;>omega
  rw [hmin]
  have hr:andPF a b=normalF (fillX (andW a b) (min a.length b.length) (min a.length b.length)):=rfl
  have hma:min a.length b.length≤a.length:=Nat.min_le_left _ _
  have hmb:min a.length b.length≤b.length:=Nat.min_le_right _ _
  generalize min a.length b.length=n at *
  refine ev_loop (ι:={i:Nat // i≤n}) (fun i=>⟨[(0,.p T142 a),(1,.p T142 b),(5,.sr 12 T209 0 n),(14,.p (.int .i64) (n:Int)),(15,.p (.int .i64) (i.1:Int))],[(12,.arr 209 T209 (fillX (andW a b) n i.1))]⟩) (fun i=>n - i.1) ⟨0,Nat.zero_le _⟩ (ent_match [(12,.nm 12)] rfl rfl ?_ ?_) (fun i=>?_)
  ·first | exact eN | refine eM ?_
   rw [fillX_zero]
  ·first | exact eN | refine eM ?_
  ·obtain ⟨i,hi⟩:=i
   have hfl:=fillX_len (andW a b) n i
   simp only
   repeat' (first | exact trivial | refine eS rfl ?_ | refine ev_out_inv ?_ | refine rX [0,1,4,5,6,14,15,16] hc ?_ ?_ | (refine rC (fun hcond=>?_) (fun hcond=>?_)<;>try (cases hcond;done)))
   ·have hi2:i < n:=Int.ofNat_lt.1 hcond
    exact ⟨by exact eV,by exact eV,hcond⟩
   ·exact eV
   ·have hi2:i < n:=Int.ofNat_lt.1 hcond
    refine ⟨⟨i + 1,hi2⟩,by simp only;omega,ent_match [(12,.nm 12)] rfl rfl ?_ ?_⟩
    ·simp only [← fillX_set]
     first | exact eN | refine eM ?_
     rfl
    ·first | exact eN | refine eM ?_
   ·have hi2:i=n:=by omega
    subst hi2
    have ht:(fillX (andW a b) i i).take i=fillX (andW a b) i i:=List.take_of_length_le (by rw [hfl];exact Nat.le_refl _)
    refine frzE [12] ?_
    repeat' (first | exact trivial | refine eS rfl ?_ | refine ev_out_inv ?_ | refine rX [0,1,4,5,6,14,15,16] hc ?_ ?_ | (refine rC (fun hcond=>?_) (fun hcond=>?_)<;>try (cases hcond;done)))
    ·rw [ht,hfl]
     dsimp only [Ty.den] at *
     omega
    ·rw [ht]
     exact ev_fin hc [.tmp 4] rfl (.inl rfl) (by simp) (by rw [hr];first | exact eR | refine eRM ?_)
def equalPF (a b:List Int):Bool:=subPF a b && subPF b a
def equalPS:Spec:={ ins:=[T142,T142],pre:=fun _=>True,out:=fun (a,b,_)=>[.p .bool (equalPF a b)],lend:=true }
attribute [local go_sem] equalPS
theorem equalP_ok:FnOk Tryz.prog 115 equalPS:=by
 refine fn_ok Tryz.func115 (by kernel_rfl) rfl Tryz.ntmps115 (by decide) (by kernel_rfl) (tyTab_ok [(148,subsetPS)]) (fns_cons subsetP_ok fns_nil) ?_
 rintro w0 O0 ⟨a,b,u⟩ hc - -
 simp only [equalPS,entEnv]
 repeat' (first | exact trivial | refine eS rfl ?_ | refine ev_out_inv ?_ | refine rX [0,1,4] hc ?_ ?_ | (refine rC (fun hcond=>?_) (fun hcond=>?_)<;>try (cases hcond;done)))
 exact ev_fin hc [.tmp 4] rfl (.inl rfl) (by simp) (by unfold equalPF;first | exact eR | refine eRM ?_)
def meetI (c:List Int):Nat→List TypeD→Int
 | _,[]=>-1
 | k,t :: l=>if equalPF t.2.1 c=true then (k:Int) else meetI c (k + 1) l
theorem meetI_step (c:List Int) (l:List TypeD) {k:Nat} (h:k < l.length):meetI c k (l.drop k)=if equalPF (l.getD k t0D).2.1 c=true then (k:Int) else meetI c (k + 1) (l.drop (k + 1)):=by
 rw [List.drop_eq_getElem_cons h]
 have e:l.getD k t0D=l[k]:=by simp [List.getD_eq_getElem?_getD,h]
 rw [e]
 rfl
theorem meetC_ok (c:List Int) (t:TypeD):CallM Tryz.prog 114 [.p T148 t,.bp 1 [] 0] [(1,.box 142 false [.p T142 c])] [1] (fun res objs'=>res=.p .bool (equalPF t.2.1 c)∧objs'=[(1,.box 142 false [.p T142 c])]):=by
 refine fnM_ok Tryz.func114 (by kernel_rfl) rfl Tryz.ntmps114 (by simp only [List.length_cons,List.length_nil];omega) (by kernel_rfl) rfl rfl (tyTab_ok [(115,equalPS)]) (fns_cons equalP_ok fns_nil) ?_
 intro w0 K O0 ρ0 hc hok1 hok2
 simp only [argEnv]
 repeat' (first | exact trivial | refine eS rfl ?_ | refine ev_out_inv ?_ | refine rX [0,1,2,3] hc ?_ ?_ | (refine rC (fun hcond=>?_) (fun hcond=>?_)<;>try (cases hcond;done)))
 refine Ev.ent (σ':=⟨[(3,.p .bool (equalPF t.2.1 c))],[(1,.box 142 false [.p T142 c])]⟩) ?_ (ent_match [(1,.nm 1)] rfl rfl ?_ ?_)
 ·exact ev_finM hc [.tmp 3] rfl (.inl rfl) (.p .bool (equalPF t.2.1 c)) eT ⟨rfl,rfl⟩
 ·first | exact eN | refine eM ?_
 ·first | exact eN | refine eM ?_
theorem indexM_ok (l:List TypeD) (c:List Int) (hl:l.length≤100000):CallM Tryz.prog 113 [.p T26 l,.clo 114 [1]] [(1,.box 142 false [.p T142 c])] [1] (fun res objs'=>res=.p T3 (meetI c 0 l)∧objs'=[(1,.box 142 false [.p T142 c])]):=by
 refine fnM_ok Tryz.func113 (by kernel_rfl) rfl Tryz.ntmps113 (by simp only [List.length_cons,List.length_nil];omega) (by kernel_rfl) rfl rfl (tyTab_ok []) fns_nil ?_
 intro w0 K O0 ρ0 hc hok1 hok2
 simp only [argEnv]
 repeat' (first | exact trivial | refine eS rfl ?_ | refine ev_out_inv ?_ | refine rX [0,1,4,5,7,8,9,16] hc ?_ ?_ | (refine rC (fun hcond=>?_) (fun hcond=>?_)<;>try (cases hcond;done)))
 refine ev_loop (ι:={k:Nat // k≤l.length∧meetI c k (l.drop k)=meetI c 0 l}) (fun k=>⟨[(0,.p T26 l),(1,.clo 114 [1]),(7,.p (.int .i64) (l.length:Int)),(8,.p (.int .i64) (k.1:Int))],[(1,.box 142 false [.p T142 c])]⟩) (fun k=>l.length - k.1) ⟨0,Nat.zero_le _,rfl⟩ (ent_match [(1,.nm 1)] rfl rfl ?_ ?_) (fun k=>?_)
 ·first | exact eN | refine eM ?_
 ·first | exact eN | refine eM ?_
 ·obtain ⟨k,hk,hf⟩:=k
  have hst:=fun h:k < l.length=>meetI_step c l h
  simp only
  repeat' (first | exact trivial | refine eS rfl ?_ | refine ev_out_inv ?_ | refine rX [0,1,4,5,7,8,9,16] hc ?_ ?_ | (refine rC (fun hcond=>?_) (fun hcond=>?_)<;>try (cases hcond;done)))
  ·have hk2:k < l.length:=Int.ofNat_lt.1 hcond
   have hs2:=hst hk2
   refine cP 5 hc ?_ ?_
   ·exact hcond
   ·refine rM hc (meetC_ok c (l.getD k t0D)) [(1,.nm 1)] [] ?_ ?_ ?_
    ·first | exact eN | refine eM ?_
    ·first | exact eN | refine eM ?_
    ·rintro _ _ ⟨rfl,rfl⟩
     refine ⟨[(1,.nm 1)],.p .bool (equalPF (l.getD k t0D).2.1 c),[(1,.box 142 false [.p T142 c])],rfl,rfl,?_,?_,rfl,rfl,evL_end ?_⟩
     ·first | exact eN | refine eM ?_
     ·first | exact eN | refine eM ?_
     ·repeat' (first | exact trivial | refine eS rfl ?_ | refine ev_out_inv ?_ | refine rX [0,1,4,5,7,8,9,16] hc ?_ ?_ | (refine rC (fun hcond=>?_) (fun hcond=>?_)<;>try (cases hcond;done)))
      ·have hcond:equalPF (l.getD k t0D).2.1 c=true:=hcond
       rw [if_pos hcond,hf] at hs2
       refine Ev.ent (σ':=⟨[(4,.p (.int .i64) (k:Int))],[(1,.box 142 false [.p T142 c])]⟩) ?_ (ent_match [(1,.nm 1)] rfl rfl ?_ ?_)
       ·exact ev_finM hc [.tmp 4] rfl (.inl rfl) (.p T3 (k:Int)) eT ⟨by rw [hs2],rfl⟩
       ·first | exact eN | refine eM ?_
       ·first | exact eN | refine eM ?_
      ·omega
      ·have hcond:equalPF (l.getD k t0D).2.1 c=false:=hcond
       rw [if_neg (by rw [hcond];simp)] at hs2
       refine ⟨⟨k + 1,hk2,hs2.symm.trans hf⟩,by simp only;omega,ent_match [(1,.nm 1)] rfl rfl ?_ ?_⟩
       ·first | exact eN | refine eM ?_
       ·first | exact eN | refine eM ?_
  ·have hk2:l.drop k=[]:=List.drop_eq_nil_of_le (Int.ofNat_le.1 hcond)
   rw [hk2] at hf
   have hf:(-1:Int)=meetI c 0 l:=hf
   refine Ev.ent (σ':=⟨[(4,.p (.int .i64) (-1))],[(1,.box 142 false [.p T142 c])]⟩) ?_ (ent_match [(1,.nm 1)] rfl rfl ?_ ?_)
   ·exact ev_finM hc [.tmp 4] rfl (.inl rfl) (.p T3 (-1)) eT ⟨by rw [hf],rfl⟩
   ·first | exact eN | refine eM ?_
   ·first | exact eN | refine eM ?_
def codeT (h:HierD) (t:Int):List Int:=(h.1.getD t.toNat t0D).2.1
def meetF (h:HierD) (a b:Int):Int×Bool :=
 if (andPF (codeT h a) (codeT h b)).length=0 then (0,false) else if meetI (andPF (codeT h a) (codeT h b)) 0 h.1 < 0 then (0,false) else (meetI (andPF (codeT h a) (codeT h b)) 0 h.1,true)
def meetS:Spec:={ ins:=[T29,T3,T3],pre:=fun (h,a,b,_)=>((0:Int)≤a∧a < (List.length (h:HierD).1:Int))∧((0:Int)≤b∧b < (List.length (h:HierD).1:Int))∧List.length (h:HierD).1≤100000∧(∀ x∈(h:HierD).1,x.2.1.length≤100000),out:=fun (h,a,b,_)=>[.p T3 (meetF h a b).1,.p .bool (meetF h a b).2],lend:=true }
theorem meet_ok:FnOk Tryz.prog 76 meetS:=by
 refine fn_ok Tryz.func76 (by kernel_rfl) rfl Tryz.ntmps76 (by decide) (by kernel_rfl) (tyTab_ok [(112,andPS)]) (fns_cons andP_ok fns_nil) ?_
 rintro w0 O0 ⟨⟨ht,hf⟩,a,b,u⟩ hc - ⟨ha,hb,hl,hx⟩
 simp only [meetS,entEnv]
 refine Ev.ent (σ':=⟨[(0,.p T29 (ht,hf)),(1,.p T3 a),(2,.p T3 b)],[]⟩) ?_ (ent_match [] rfl rfl ?_ ?_)
 ·repeat' (first | exact trivial | refine eS rfl ?_ | refine ev_out_inv ?_ | refine rX [0,1,2,3,6,7,8,9,25,31] hc ?_ ?_ | (refine rC (fun hcond=>?_) (fun hcond=>?_)<;>try (cases hcond;done)))
  ·refine ⟨ha,hb,?_⟩
   have h1:Int.toNat a < List.length ht:=(Int.toNat_lt ha.1).2 ha.2
   exact hx _ (mem_of_take_succ (ht:List TypeD) t0D h1)
  ·have hr:meetF (ht,hf) a b=(0,false):=by
    unfold meetF
    rw [if_pos (by unfold codeT;exact Int.ofNat.inj hcond)]
   exact ev_fin hc [.tmp 6,.tmp 7] rfl (.inl rfl) (by simp) (by rw [hr];first | exact eR | refine eRM ?_)
  ·have hcd:∀ c,c=andPF (List.getD ht (Int.toNat a) (ByteArray.empty,[],[],[])).2.1 (List.getD ht (Int.toNat b) (ByteArray.empty,[],[],[])).2.1→c=andPF (codeT (ht,hf) a) (codeT (ht,hf) b):=fun c h=>h
   have hmf:meetF (ht,hf) a b=if meetI (andPF (codeT (ht,hf) a) (codeT (ht,hf) b)) 0 ht < 0 then (0,false) else (meetI (andPF (codeT (ht,hf) a) (codeT (ht,hf) b)) 0 ht,true):=by
    unfold meetF
    rw [if_neg (fun h=>hcond (by unfold codeT at h;exact congrArg Int.ofNat h))]
   generalize hcg:andPF (List.getD ht (Int.toNat a) (ByteArray.empty,[],[],[])).2.1 (List.getD ht (Int.toNat b) (ByteArray.empty,[],[],[])).2.1=c at *
   rw [← hcd c rfl] at hmf
   refine cP 3 hc ?_ ?_
   ·trivial
   ·refine rM hc (indexM_ok ht c hl) [(1,.nm 8)] [] ?_ ?_ ?_
    ·first | exact eN | refine eM ?_
    ·first | exact eN | refine eM ?_
    ·rintro _ _ ⟨rfl,rfl⟩
     refine ⟨[(8,.nm 1)],.p T3 (meetI c 0 ht),[(8,.box 142 false [.p T142 c])],rfl,rfl,?_,?_,rfl,rfl,?_⟩
     ·first | exact eN | refine eM ?_
     ·first | exact eN | refine eM ?_
     ·generalize meetI c 0 ht=m at *
      refine rL [0,1,2,3,6,7,8,9,25,31] hc ?_ ?_
      ·trivial
      ·repeat' (first | exact trivial | refine eS rfl ?_ | refine ev_out_inv ?_ | refine rX [0,1,2,3,6,7,8,9,25,31] hc ?_ ?_ | (refine rC (fun hcond=>?_) (fun hcond=>?_)<;>try (cases hcond;done)))
       ·rw [if_pos hcond] at hmf
        exact ev_fin hc [.tmp 6,.tmp 7] rfl (.inl rfl) (by simp) (by rw [hmf];first | exact eR | refine eRM ?_)
       ·rw [if_neg (Int.not_lt.2 hcond)] at hmf
        exact ev_fin hc [.tmp 6,.tmp 7] rfl (.inl rfl) (by simp) (by rw [hmf];first | exact eR | refine eRM ?_)
 ·first | exact eN | refine eM ?_
 ·first | exact eN | refine eM ?_
end
/- Functions of grammarlabref08, 06, 11: Step, find, Meet, Types. -/
section
attribute [local go_sem] sameS andS
def stepRS:Spec:={ ins:=[T25,T3,T3],pre:=fun (f,n,_,_)=>(0:Int)≤n∧n < (List.length f:Int),out:=fun (f,n,e,_)=>[.p T3 (tarG (List.getD (f:List GNode) (Int.toNat n) (0,[])).2 e).1,.p .bool (tarG (List.getD (f:List GNode) (Int.toNat n) (0,[])).2 e).2],lend:=true }
attribute [local go_sem] stepRS
theorem stepR_ok:FnOk Tryz.prog 106 stepRS:=by
 refine fn_ok Tryz.func106 (by kernel_rfl) rfl Tryz.ntmps106 (by decide) (by kernel_rfl) (tyTab_ok []) fns_nil ?_
 rintro w0 O0 ⟨f,n,e,u⟩ hc ⟨⟨hlf,hf⟩,-⟩ hn
 simp only [stepRS,entEnv]
 repeat' (first | exact trivial | refine eS rfl ?_ | refine ev_out_inv ?_ | refine rX [0,1,2,3,6,7,8,9,19,28] hc ?_ ?_ | (refine rC (fun hcond=>?_) (fun hcond=>?_)<;>try (cases hcond;done)))
 ·exact hn
 ·have hL:List.length (List.getD (f:List GNode) (Int.toNat n) (0,[])).2≤maxN:=by
   have h1:Int.toNat n < List.length f:=(Int.toNat_lt hn.1).2 hn.2
   have:=hf _ (mem_of_take_succ (f:List GNode) (0,[]) h1)
   exact this.2.1
  simp only [maxN] at hL
  generalize (List.getD (f:List GNode) (Int.toNat n) (0,[])).2=l at *
  refine ev_loop (ι:={k:Nat // k≤l.length∧tarG (l.drop k) e=tarG l e}) (fun k=>⟨[(2,.p T3 e),(8,.p T86 l),(9,.p (.int .i64) (k.1:Int))],[]⟩) (fun k=>l.length - k.1) ⟨0,by simp⟩ (ent_match [] rfl rfl ?_ ?_) (fun k=>?_)
  ·first | exact eN | refine eM ?_
  ·first | exact eN | refine eM ?_
  ·obtain ⟨k,hk,hg⟩:=k
   have hd:k < l.length→l.drop k=l.getD k (0,0) :: l.drop (k + 1):=fun h=>by
    rw [List.drop_eq_getElem_cons h,List.getD_eq_getElem?_getD,List.getElem?_eq_getElem h];rfl
   have hgd:k < l.length→(if (l.getD k (0,0)).1=e then ((l.getD k (0,0)).2,true) else tarG (l.drop (k + 1)) e)=tarG l e:=fun h=>by
    rw [hd h] at hg;exact hg
   repeat' (first | exact trivial | refine eS rfl ?_ | refine ev_out_inv ?_ | refine rX [0,1,2,3,6,7,8,9,19,28] hc ?_ ?_ | (refine rC (fun hcond=>?_) (fun hcond=>?_)<;>try (cases hcond;done)))
   ·exact eV
   ·exact eV
   ·have hkl:k < l.length:=by exact eV
    have hg:=hgd hkl
    rw [if_pos hcond] at hg
    exact ev_fin hc [.tmp 6,.tmp 7] rfl (.inl rfl) (by simp) (by rw [← hg];first | exact eR | refine eRM ?_)
   ·exact eV
   ·have hkl:k < l.length:=by exact eV
    have hg:=hgd hkl
    rw [if_neg hcond] at hg
    refine ⟨⟨k + 1,by omega,hg⟩,by simp only;omega,ent_match [] rfl rfl ?_ ?_⟩
    ·first | exact eN | refine eM ?_
    ·first | exact eN | refine eM ?_
   ·have hk:l.drop k=[]:=List.drop_eq_nil_of_le (by exact eV)
    rw [hk] at hg
    have hg:(0,false)=tarG l e:=hg
    exact ev_fin hc [.tmp 6,.tmp 7] rfl (.inl rfl) (by simp) (by rw [← hg];first | exact eR | refine eRM ?_)
def findT (b:List Int):List TypeD→Nat→Int×Bool
 | [],_=>(0,false)
 | t :: r,k=>if t.2.1=b then ((k:Int),true) else findT b r (k + 1)
def findTS:Spec:={ ins:=[T29,T142],pre:=fun _=>True,out:=fun (h,b,_)=>[.p T3 (findT b (h:HierD).1 0).1,.p .bool (findT b (h:HierD).1 0).2],lend:=true }
attribute [local go_sem] findTS
theorem findT_ok:FnOk Tryz.prog 142 findTS:=by
 refine fn_ok Tryz.func142 (by kernel_rfl) rfl Tryz.ntmps142 (by decide) (by kernel_rfl) (tyTab_ok [(177,sameS)]) (fns_cons same_ok fns_nil) ?_
 rintro w0 O0 ⟨⟨l,hf⟩,b,u⟩ hc ⟨⟨⟨hl,-⟩,-⟩,-⟩ -
 simp only [maxN] at hl
 simp only [findTS,entEnv]
 repeat' (first | exact trivial | refine eS rfl ?_ | refine ev_out_inv ?_ | refine rX [0,1,2,4,5,6,11,21] hc ?_ ?_ | (refine rC (fun hcond=>?_) (fun hcond=>?_)<;>try (cases hcond;done)))
 refine ev_loop (ι:={k:Nat // k≤List.length l∧findT b (List.drop k l) k=findT b l 0}) (fun k=>⟨[(1,.p T142 b),(2,.bp 2 [] 0),(6,.p (.int .i64) (k.1:Int))],[(2,.box 29 true [.p T26 l,.p T27 hf])]⟩) (fun k=>List.length l - k.1) ⟨0,by simp⟩ (ent_match [(2,.nm 2)] rfl rfl ?_ ?_) (fun k=>?_)
 ·first | exact eN | refine eM ?_
 ·first | exact eN | refine eM ?_
 ·obtain ⟨k,hk,hg⟩:=k
  have hgd:k < List.length l→(if (List.getD l k t0D).2.1=b then ((k:Int),true) else findT b (List.drop (k + 1) l) (k + 1))=findT b l 0:=fun h=>by
   rw [List.drop_eq_getElem_cons h] at hg
   rw [List.getD_eq_getElem?_getD,List.getElem?_eq_getElem h];exact hg
  repeat' (first | exact trivial | refine eS rfl ?_ | refine ev_out_inv ?_ | refine rX [0,1,2,4,5,6,11,21] hc ?_ ?_ | (refine rC (fun hcond=>?_) (fun hcond=>?_)<;>try (cases hcond;done)))
  ·exact eV
  ·have hkl:k < List.length l:=by exact eV
   have hg:=hgd hkl
   have hcond:(List.getD l k t0D).2.1=b:=by simpa [sameF] using hcond
   rw [if_pos hcond] at hg
   exact ev_fin hc [.tmp 4,.tmp 5] rfl (.inl rfl) (by simp) (by rw [← hg];first | exact eR | refine eRM ?_)
  ·exact eV
  ·have hkl:k < List.length l:=by exact eV
   have hg:=hgd hkl
   have hcond:¬ (List.getD l k t0D).2.1=b:=by simpa [sameF] using hcond
   rw [if_neg hcond] at hg
   refine ⟨⟨k + 1,by omega,hg⟩,by simp only;omega,ent_match [(2,.nm 2)] rfl rfl ?_ ?_⟩
   ·first | exact eN | refine eM ?_
   ·first | exact eN | refine eM ?_
  ·have hk:List.drop k l=[]:=List.drop_eq_nil_of_le (by exact eV)
   rw [hk] at hg
   have hg:(0,false)=findT b l 0:=hg
   exact ev_fin hc [.tmp 4,.tmp 5] rfl (.inl rfl) (by simp) (by rw [← hg];first | exact eR | refine eRM ?_)
def meet6F (h:HierD) (a b:Int):Int×Bool:=findT (andF (codeT h a) (codeT h b)) h.1 0
def meet6S:Spec:={ ins:=[T29,T3,T3],pre:=fun (h,a,b,_)=>((0:Int)≤a∧a < (List.length (h:HierD).1:Int))∧((0:Int)≤b∧b < (List.length (h:HierD).1:Int))∧(∀ x∈(h:HierD).1,x.2.1.length≤100000),out:=fun (h,a,b,_)=>[.p T3 (meet6F h a b).1,.p .bool (meet6F h a b).2],lend:=true }
attribute [local go_sem] meet6S
theorem meet6_ok:FnOk Tryz.prog 105 meet6S:=by
 refine fn_ok Tryz.func105 (by kernel_rfl) rfl Tryz.ntmps105 (by decide) (by kernel_rfl) (tyTab_ok [(142,findTS),(143,andS)]) (fns_cons findT_ok (fns_cons and_ok fns_nil)) ?_
 rintro w0 O0 ⟨⟨ht,hf⟩,a,b,u⟩ hc - ⟨ha,hb,hx⟩
 simp only [meet6S,entEnv]
 have hcd:∀ x:Int,0≤x∧x < (List.length ht:Int)→List.length (codeT (ht,hf) x)≤100000:=fun x h1=>by
  have h2:Int.toNat x < List.length ht:=(Int.toNat_lt h1.1).2 h1.2
  exact hx _ (mem_of_take_succ (ht:List TypeD) t0D h2)
 repeat' (first | exact trivial | refine eS rfl ?_ | refine ev_out_inv ?_ | refine rX [0,1,2,3,6,7] hc ?_ ?_ | (refine rC (fun hcond=>?_) (fun hcond=>?_)<;>try (cases hcond;done)))
 ·refine ⟨ha,hb,?_⟩
  exact hcd a ha
 ·exact ev_fin hc [.tmp 6,.tmp 7] rfl (.inl rfl) (by simp) (by unfold meet6F codeT;first | exact eR | refine eRM ?_)
end
/- Functions of subsume: target, Map, Subsumes. -/
section
def tgtF (l:List (Int×Int)) (e:Int):Int:=match l with
 | []=>-1
 | a :: l=>if a.1=e then a.2 else tgtF l e
end
/- Functions of subsume: Map, Subsumes. -/
section
structure MapI (a b:List GNode) (m:List Int):Prop where
 len:m.length=a.length
 rng:∀ x∈m,x < (b.length:Int)
theorem MapI.set {a b:List GNode} {m:List Int} (h:MapI a b m) (k:Nat) {v:Int} (hv:v < (b.length:Int)):MapI a b (m.set k v):=by
 refine ⟨by simp [h.len],fun x hx=>?_⟩
 rcases List.mem_or_eq_of_mem_set hx with hx | hx
 ·exact h.rng x hx
 ·rw [hx];exact hv
theorem MapI.get {a b:List GNode} {m:List Int} (h:MapI a b m) (hb:0 < b.length) (k:Nat):m.getD k 0 < (b.length:Int):=by
 rw [List.getD_eq_getElem?_getD]
 cases hh:m[k]? with
 | none=>show (0:Int) < _;omega
 | some x=>exact h.rng x (List.mem_of_getElem? hh)
def TyOk (h:HierD) (f:List GNode):Prop:=∀ x∈f,0≤x.1∧x.1 < (h.1.length:Int)
theorem node_rng {f:List GNode} (hf:GoodF f) (k:Nat):∀ x∈(f.getD k (0,[])).2,0≤x.2∧x.2 < (f.length:Int):=by
 intro x hx
 by_cases h:k < f.length
 ·exact (hf.2 _ (mem_of_take_succ f (0,[]) h)).2 x hx
 ·rw [List.getD_eq_getElem?_getD,List.getElem?_eq_none (by omega)] at hx
  cases hx
end
/- Functions of grammarlabref11: Types. -/
section
attribute [local go_sem] meet6S
def typG (h:HierD) (l:List GNode) (c:List Int):Nat→Option (List Int)
 | 0=>some (List.replicate l.length 0)
 | i + 1=>match typG h l c i with
  | none=>none
  | some o=>if (meet6F h (o.getD (c.getD i 0).toNat 0) (l.getD i (0,[])).1).2=true then some (o.set (c.getD i 0).toNat (meet6F h (o.getD (c.getD i 0).toNat 0) (l.getD i (0,[])).1).1) else none
theorem typG_none {h:HierD} {l:List GNode} {c:List Int} {i:Nat} (hn:typG h l c i=none):∀ {j:Nat},i≤j→typG h l c j=none:=by
 intro j hij
 induction j with
 | zero=>rw [show i=0 by omega] at hn;exact hn
 | succ j ih =>
  by_cases e:i=j + 1
  ·rw [← e];exact hn
  ·simp only [typG];rw [ih (by omega)]
def repI (c o:List Int) (i:Nat):List Int:=((List.range i).map fun (k:Nat)=>o.getD (c.getD k 0).toNat 0)++o.drop i
def typesF (h:HierD) (l:List GNode) (c:List Int):List Int×Bool:=match typG h l c l.length with
 | none=>([],false)
 | some o=>((List.range l.length).map fun (k:Nat)=>o.getD (c.getD k 0).toNat 0,true)
def RepC (n:Nat) (c:List Int):Prop:=c.length=n∧∀ k:Nat,k < n→0≤c.getD k 0∧c.getD k 0≤(k:Int)∧c.getD (c.getD k 0).toNat 0=c.getD k 0
theorem repI_len {c o:List Int} {i:Nat} (h:i≤o.length):(repI c o i).length=o.length:=by
 unfold repI
 simp;omega
theorem repI_get {c o:List Int} {i:Nat} (hi:i < o.length) {x:Int} (hr:RepC o.length c) (hx:x=c.getD i 0):(repI c o i).getD x.toNat 0=o.getD x.toNat 0:=by
 obtain ⟨h1,h2,h3⟩:=hr.2 i hi
 rw [← hx] at h1 h2 h3
 unfold repI
 by_cases e:x.toNat < i
 ·rw [List.getD_eq_getElem?_getD,List.getElem?_append_left (by simpa using e),List.getElem?_map,List.getElem?_range e]
  simp only [Option.map_some,Option.getD_some]
  rw [h3]
 ·have e:x.toNat=i:=by omega
  rw [e,List.getD_eq_getElem?_getD,List.getElem?_append_right (by simp)]
  simp only [List.length_map,List.length_range,Nat.sub_self,List.getElem?_drop,Nat.add_zero]
  rw [List.getD_eq_getElem?_getD]
theorem repI_set {c o:List Int} {i:Nat} (hi:i < o.length):(repI c o i).set i (o.getD (c.getD i 0).toNat 0)=repI c o (i + 1):=by
 unfold repI
 rw [List.set_append_right _ _ (by simp)]
 simp only [List.length_map,List.length_range,Nat.sub_self]
 rw [List.drop_eq_getElem_cons hi,List.set_cons_zero,List.range_succ,List.map_append,List.append_assoc];rfl
theorem repI_full (c o:List Int):repI c o o.length=(List.range o.length).map fun (k:Nat)=>o.getD (c.getD k 0).toNat 0:=by
 unfold repI
 simp
theorem repI_zero (c o:List Int):repI c o 0=o:=by simp [repI]
theorem find_rng (b:List Int):∀ (l:List TypeD) (k:Nat),0≤(findT b l k).1∧((findT b l k).2=true→(k:Int)≤(findT b l k).1∧(findT b l k).1 < (k:Int) + l.length)
 | [],k=>⟨by simp [findT],by simp [findT]⟩
 | t :: r,k=>by
  unfold findT
  split
  ·exact ⟨by simp only;omega,fun _=>⟨by simp only;omega,by simp only [List.length_cons];omega⟩⟩
  ·obtain ⟨h1,h2⟩:=find_rng b r (k + 1)
   refine ⟨h1,fun h=>?_⟩
   obtain ⟨h3,h4⟩:=h2 h
   simp only [List.length_cons]
   omega
theorem meet6_rng {h:HierD} {a b:Int} (hm:(meet6F h a b).2=true):0≤(meet6F h a b).1∧(meet6F h a b).1 < (h.1.length:Int):=by
 obtain ⟨h1,h2⟩:=find_rng (andF (codeT h a) (codeT h b)) h.1 0
 have h2:=h2 hm
 unfold meet6F
 exact ⟨h1,by omega⟩
def TyR (h:HierD) (n:Nat) (o:List Int):Prop:=o.length=n∧∀ k,k < n→0≤o.getD k 0∧o.getD k 0 < (h.1.length:Int)
theorem getD_setZ (l:List Int) (v:Int) (i j:Nat) (hi:i < l.length):(l.set i v).getD j 0=if j=i then v else l.getD j 0:=by
 simp only [List.getD_eq_getElem?_getD,List.getElem?_set]
 by_cases e:i=j
 ·subst e;simp [hi]
 ·rw [if_neg e,if_neg (fun h=>e h.symm)]
theorem typG_ok {h:HierD} (h0:0 < h.1.length) {l:List GNode} {c:List Int} (hc:RepC l.length c):∀ {i:Nat} {o:List Int},i≤l.length→typG h l c i=some o→TyR h l.length o
 | 0,o,_,ho=>by
  simp only [typG] at ho
  cases ho
  refine ⟨by simp,fun k hk=>?_⟩
  rw [List.getD_eq_getElem?_getD,List.getElem?_replicate,if_pos hk]
  exact ⟨Int.le_refl _,by simp only [Option.getD_some];omega⟩
 | i + 1,o,hi,ho=>by
  simp only [typG] at ho
  cases hp:typG h l c i with
  | none=>rw [hp] at ho;cases ho
  | some p =>
   rw [hp] at ho
   simp only at ho
   split at ho
   ·rename_i hm
    cases ho
    obtain ⟨h1,h2⟩:=typG_ok h0 hc (by omega) hp
    obtain ⟨c1,c2,_⟩:=hc.2 i (by omega)
    refine ⟨by rw [List.length_set];exact h1,fun k hk=>?_⟩
    rw [getD_setZ _ _ _ _ (by omega)]
    split
    ·exact meet6_rng hm
    ·exact h2 k hk
   ·cases ho
def typesS:Spec:={ ins:=[T29,T23,T40],pre:=fun (h,l,c,_)=>RepC (List.length l) c∧TyOk h l∧0 < List.length (h:HierD).1∧List.length l≤100000∧(∀ x∈(h:HierD).1,x.2.1.length≤100000),out:=fun (h,l,c,_)=>[.p T40 (typesF h l c).1,.p .bool (typesF h l c).2] }
attribute [local go_sem] typesS
theorem types_ok:FnOk Tryz.prog 67 typesS:=by
 refine fn_ok Tryz.func67 (by kernel_rfl) rfl Tryz.ntmps67 (by decide) (by kernel_rfl) (tyTab_ok [(105,meet6S)]) (fns_cons meet6_ok fns_nil) ?_
 rintro w0 O0 ⟨⟨ht,hf⟩,l,c,u⟩ hc - ⟨hr,hty,h0,hl,hx⟩
 simp only [typesS,entEnv]
 have hcl:=hr.1
 repeat' (first | exact trivial | refine eS rfl ?_ | refine ev_out_inv ?_ | refine rX [0,1,2,3,6,7,8,9,10,11,12,19,40,51] hc ?_ ?_ | (refine rC (fun hcond=>?_) (fun hcond=>?_)<;>try (cases hcond;done)))
 ·simp only [maxN];exact eV
 ·refine ev_loop (ι:={s:Nat×List Int // s.1≤List.length l∧typG (ht,hf) l c s.1=some s.2}) (fun i=>⟨[(1,.p T23 l),(2,.p T40 c),(3,.bp 3 [] 0),(6,.raw (.slice none 0 0)),(7,.p .bool false),(8,.sr 15 T3 0 (List.length l)),(9,.p (.int .i64) (i.1.1:Int))],[(3,.box 29 true [.p T26 ht,.p T27 hf]),(15,.arr 3 T3 i.1.2)]⟩) (fun i=>List.length l - i.1.1) ⟨(0,List.replicate (List.length l) 0),by simp,rfl⟩ (ent_match [(3,.nm 3),(15,.nm 15)] rfl rfl ?_ ?_) (fun i=>?_)
  ·first | exact eN | refine eM ?_
  ·first | exact eN | refine eM ?_
  ·obtain ⟨⟨i,o⟩,hi,ho⟩:=i
   simp only at hi ho
   obtain ⟨hol,hor⟩:=typG_ok h0 hr hi ho
   simp only
   have hci:=hr.2 i
   have hoc:=hor (c.getD i 0).toNat
   have htl:=fun h:i < List.length l=>hty _ (mem_of_take_succ (l:List GNode) (0,[]) h)
   have hnx:typG (ht,hf) l c (i + 1)=if (meet6F (ht,hf) (o.getD (c.getD i 0).toNat 0) (l.getD i (0,[])).1).2=true then some (o.set (c.getD i 0).toNat (meet6F (ht,hf) (o.getD (c.getD i 0).toNat 0) (l.getD i (0,[])).1).1) else none:=by
    simp only [typG,ho]
   have htyp:typesF (ht,hf) l c=match typG (ht,hf) l c (List.length l) with
    | none=>([],false)
    | some o=>((List.range (List.length l)).map fun (k:Nat)=>o.getD (c.getD k 0).toNat 0,true):=rfl
   repeat' (first | exact trivial | refine eS rfl ?_ | refine ev_out_inv ?_ | refine rX [0,1,2,3,6,7,8,9,10,11,12,19,40,51] hc ?_ ?_ | (refine rC (fun hcond=>?_) (fun hcond=>?_)<;>try (cases hcond;done)))
   ·have hil:i < List.length l:=by exact eV
    obtain ⟨c1,c2,c3⟩:=hci hil
    exact ⟨by rw [hcl];exact hcond,⟨c1,by exact eV⟩,hcond,hoc (by omega),htl hil,hx⟩
   ·have hil:i < List.length l:=by exact eV
    rw [if_neg (by rw [hcond];simp)] at hnx
    have:=typG_none hnx (j:=List.length l) (by omega)
    rw [this] at htyp
    exact ev_fin hc [.tmp 6,.tmp 7] rfl (.inl rfl) (by simp) (by rw [htyp];first | exact eR | refine eRM ?_)
   ·have hil:i < List.length l:=by exact eV
    obtain ⟨c1,c2,c3⟩:=hci hil
    exact ⟨by rw [hcl];assumption,c1,by exact eV⟩
   ·exact eV
   ·have hil:i < List.length l:=by exact eV
    rw [if_pos hcond] at hnx
    refine ⟨⟨(i + 1,_),by simp only;omega,hnx⟩,by simp only;omega,ent_match [(3,.nm 3),(15,.nm 15)] rfl rfl ?_ ?_⟩
    ·first | exact eN | refine eM ?_
    ·first | exact eN | refine eM ?_
   ·have hil:i=List.length l:=by exact eV
    rw [← hil,ho] at htyp
    simp only at htyp
    have hrc:RepC o.length c:=by rw [hol];exact hr
    rw [← hil] at hol
    refine ev_loop (ι:={j:Nat // j≤o.length}) (fun j=>⟨[(1,.p T23 l),(2,.p T40 c),(8,.sr 15 T3 0 (List.length l)),(12,.p (.int .i64) (j.1:Int))],[(15,.arr 3 T3 (repI c o j.1))]⟩) (fun j=>o.length - j.1) ⟨0,by omega⟩ (ent_match [(15,.nm 15)] rfl rfl ?_ ?_) (fun j=>?_)
    ·first | exact eN | refine eM ?_
     rw [repI_zero]
    ·first | exact eN | refine eM ?_
    ·obtain ⟨j,hj⟩:=j
     have hjl:=repI_len (c:=c) hj
     have hjg:=fun h:j < o.length=>repI_get (x:=c.getD j 0) h hrc rfl
     have hjs:=fun h:j < o.length=>repI_set (c:=c) h
     have hcj:=hrc.2 j
     simp only
     repeat' (first | exact trivial | refine eS rfl ?_ | refine ev_out_inv ?_ | refine rX [0,1,2,3,6,7,8,9,10,11,12,19,40,51] hc ?_ ?_ | (refine rC (fun hcond=>?_) (fun hcond=>?_)<;>try (cases hcond;done)))
     ·have hjl2:j < o.length:=by rw [hol,hil];exact eV
      obtain ⟨c1,c2,c3⟩:=hcj hjl2
      exact ⟨by rw [hcl];exact hcond,⟨c1,by exact eV⟩,hcond⟩
     ·exact eV
     ·have hjl2:j < o.length:=by rw [hol,hil];exact eV
      refine ⟨⟨j + 1,by omega⟩,by simp only;omega,ent_match [(15,.nm 15)] rfl rfl ?_ ?_⟩
      ·simp only
       rw [← hjs hjl2,← hjg hjl2]
       first | exact eN | refine eM ?_
      ·first | exact eN | refine eM ?_
     ·have hjl2:j=o.length:=by rw [hol,hil] at hj ⊢;exact eV
      subst hjl2
      rw [repI_full,hol]
      have hlt:((List.range i).map fun (k:Nat)=>o.getD (c.getD k 0).toNat 0).take (List.length l)=(List.range i).map fun (k:Nat)=>o.getD (c.getD k 0).toNat 0:=List.take_of_length_le (by simp;omega)
      exact ev_fin hc [.tmp 6,.tmp 7] rfl (.inl rfl) (by simp) (by rw [htyp];first | exact eR | refine eRM ?_;rw [hil] at hlt ⊢;exact hlt)
end
/- Functions of grammarlabref11: Quotient. -/
section
attribute [local go_sem] stepRS fromS
attribute [local go_sem] trnEN ninN ne_eq not_false_eq_true
def arc1 (cl:List Int) (L:List (Int×Int)) (x:Int×Int):List (Int×Int):=if (tarG L x.1).2=true then L else L++[(x.1,cl.getD x.2.toNat 0)]
def arcsQ (cl:List Int) (L l:List (Int×Int)):List (Int×Int):=l.foldl (arc1 cl) L
def nodeQ (cl:List Int) (g:List GNode) (i:Nat) (l:List (Int×Int)):List GNode:=g.set (cl.getD i 0).toNat ((g.getD (cl.getD i 0).toNat (0,[])).1,arcsQ cl (g.getD (cl.getD i 0).toNat (0,[])).2 l)
def rowsQ (l:List GNode) (cl types:List Int):Nat→List GNode
 | 0=>(List.range l.length).map fun (k:Nat)=>(types.getD k 0,[])
 | i + 1=>nodeQ cl (rowsQ l cl types i) i (l.getD i (0,[])).2
def quotF (l:List GNode) (cl types:List Int) (root:Int):List GNode:=fromF (rowsQ l cl types l.length) (cl.getD root.toNat 0)
def quotS:Spec:={ ins:=[T23,T40,T40,T3],pre:=fun (l,c,t,r,_)=>GoodF l∧List.length c=List.length l∧List.length t=List.length l∧(∀ x∈(c:List Int),0≤x∧x < (List.length l:Int))∧((0:Int)≤r∧r < (List.length l:Int))∧List.length l * 1000≤100000∧(∀ x∈(l:List GNode),x.2.length≤1000),out:=fun (l,c,t,r,_)=>[.p T25 (quotF l c t r)] }
attribute [local go_sem] quotS
def rows0 (types:List Int) (i:Nat):List GNode:=(List.range i).map fun (k:Nat)=>(types.getD k 0,[])
theorem rows0_len (types:List Int) (i:Nat):(rows0 types i).length=i:=by simp [rows0]
theorem rows0_succ (types:List Int) (i:Nat):rows0 types (i + 1)=rows0 types i++[(types.getD i 0,[])]:=by simp [rows0,List.range_succ]
theorem rows0_full (l:List GNode) (c t:List Int):rows0 t l.length=rowsQ l c t 0:=rfl
theorem nodeQ_len (c:List Int) (g:List GNode) (i:Nat) (l:List (Int×Int)):(nodeQ c g i l).length=g.length:=by simp [nodeQ]
theorem getD_setG (l:List GNode) (v:GNode) (i j:Nat) (hi:i < l.length):(l.set i v).getD j (0,[])=if j=i then v else l.getD j (0,[]):=by
 simp only [List.getD_eq_getElem?_getD,List.getElem?_set]
 by_cases e:i=j
 ·subst e;simp [hi]
 ·rw [if_neg e,if_neg (fun h=>e h.symm)]
theorem nodeQ_get {c:List Int} {g:List GNode} {i:Nat} {l:List (Int×Int)} (hi:(c.getD i 0).toNat < g.length):(nodeQ c g i l).getD (c.getD i 0).toNat (0,[])=((g.getD (c.getD i 0).toNat (0,[])).1,arcsQ c (g.getD (c.getD i 0).toNat (0,[])).2 l):=by
 unfold nodeQ
 rw [getD_setG _ _ _ _ hi,if_pos rfl]
theorem nodeQ_nil {c:List Int} {g:List GNode} {i:Nat} (hi:(c.getD i 0).toNat < g.length):nodeQ c g i []=g:=by
 unfold nodeQ arcsQ
 simp only [List.foldl_nil]
 apply List.ext_getElem?
 intro j
 rw [List.getElem?_set]
 split
 ·rename_i e
  subst e
  rw [List.getD_eq_getElem?_getD,List.getElem?_eq_getElem hi]
  simp [hi]
 ·rfl
theorem nodeQ_step {c:List Int} {g:List GNode} {i:Nat} {l:List (Int×Int)} {x:Int×Int} (hi:(c.getD i 0).toNat < g.length) :
  ((tarG ((nodeQ c g i l).getD (c.getD i 0).toNat (0,[])).2 x.1).2=true→nodeQ c g i (l++[x])=nodeQ c g i l) ∧
  ((tarG ((nodeQ c g i l).getD (c.getD i 0).toNat (0,[])).2 x.1).2=false→nodeQ c g i (l++[x])=(nodeQ c g i l).set (c.getD i 0).toNat (((nodeQ c g i l).getD (c.getD i 0).toNat (0,[])).1,((nodeQ c g i l).getD (c.getD i 0).toNat (0,[])).2++[(x.1,c.getD x.2.toNat 0)])):=by
 rw [nodeQ_get hi]
 unfold nodeQ arcsQ
 rw [List.foldl_append]
 simp only [List.foldl_cons,List.foldl_nil]
 refine ⟨fun h=>?_,fun h=>?_⟩
 ·unfold arc1 at h ⊢
  rw [if_pos h]
 ·rw [List.set_set]
  unfold arc1 at h ⊢
  rw [if_neg (by rw [h];simp)]
def RowsOk (n m:Nat) (g:List GNode):Prop:=g.length=n∧∀ k,(g.getD k (0,[])).2.length≤m∧∀ a∈(g.getD k (0,[])).2,0≤a.2∧a.2 < (n:Int)
theorem arcsQ_ok {c:List Int} {n:Nat} (hcl:c.length=n) (hcr:∀ x∈c,0≤x∧x < (n:Int)):∀ (l:List (Int×Int)) {L:List (Int×Int)} {m:Nat},L.length≤m→(∀ a∈L,0≤a.2∧a.2 < (n:Int))→(∀ a∈l,0≤a.2∧a.2 < (n:Int))→(arcsQ c L l).length≤m + l.length∧∀ a∈arcsQ c L l,0≤a.2∧a.2 < (n:Int)
 | [],L,m,h1,h2,_=>⟨h1,h2⟩
 | x :: l,L,m,h1,h2,h3=>by
  have hx:=h3 x (by simp)
  have e:arcsQ c L (x :: l)=arcsQ c (arc1 c L x) l:=rfl
  rw [e]
  have h4:(arc1 c L x).length≤m + 1∧∀ a∈arc1 c L x,0≤a.2∧a.2 < (n:Int):=by
   unfold arc1
   split
   ·exact ⟨by omega,h2⟩
   ·refine ⟨by simp;omega,fun a ha=>?_⟩
    rcases List.mem_append.1 ha with ha | ha
    ·exact h2 a ha
    ·have:a=(x.1,c.getD x.2.toNat 0):=by simpa using ha
     subst this
     exact hcr _ (mem_of_take_succ c 0 (by omega))
  have:=arcsQ_ok hcl hcr l h4.1 h4.2 fun a ha=>h3 a (by simp [ha])
  simp only [List.length_cons]
  exact ⟨by omega,this.2⟩
theorem nodeQ_ok {c:List Int} {n:Nat} (hcl:c.length=n) (hcr:∀ x∈c,0≤x∧x < (n:Int)) {g:List GNode} {m:Nat} (hg:RowsOk n m g) {i:Nat} (hi:i < n) {l:List (Int×Int)} (hl:∀ a∈l,0≤a.2∧a.2 < (n:Int)):RowsOk n (m + l.length) (nodeQ c g i l):=by
 have hci:=hcr _ (mem_of_take_succ c 0 (k:=i) (by omega))
 have hlt:(c.getD i 0).toNat < g.length:=by rw [hg.1];omega
 refine ⟨by rw [nodeQ_len];exact hg.1,fun k=>?_⟩
 unfold nodeQ
 rw [getD_setG _ _ _ _ hlt]
 split
 ·exact arcsQ_ok hcl hcr l (hg.2 _).1 (hg.2 _).2 hl
 ·exact ⟨Nat.le_trans (hg.2 k).1 (by omega),(hg.2 k).2⟩
theorem rowsQ_ok {l:List GNode} {c t:List Int} (hl:GoodF l) (hla:∀ x∈l,x.2.length≤1000) (hcl:c.length=l.length) (hcr:∀ x∈c,0≤x∧x < (l.length:Int)):∀ {i:Nat},i≤l.length→RowsOk l.length (i * 1000) (rowsQ l c t i)
 | 0,_=>by
  refine ⟨by simp [rowsQ],fun k=>?_⟩
  unfold rowsQ
  rw [List.getD_eq_getElem?_getD,List.getElem?_map]
  cases h:(List.range l.length)[k]? with
  | none=>simp
  | some j=>simp
 | i + 1,hi=>by
  have hm:=mem_of_take_succ l (0,[]) (k:=i) (by omega)
  have:=nodeQ_ok hcl hcr (rowsQ_ok (t:=t) hl hla hcl hcr (i:=i) (by omega)) (i:=i) (by omega) (l:=(l.getD i (0,[])).2) (fun a ha=>(hl.2 _ hm).2 a ha)
  refine ⟨this.1,fun k=>⟨Nat.le_trans (this.2 k).1 ?_,(this.2 k).2⟩⟩
  have:=hla _ hm
  omega
theorem rows_good {n m:Nat} {g:List GNode} (h:RowsOk n m g) (hn:n≤100000) (hm:m≤100000):GoodF g:=by
 refine ⟨by rw [h.1];exact hn,fun x hx=>?_⟩
 obtain ⟨k,hk,rfl⟩:=List.mem_iff_getElem.1 hx
 have:=h.2 k
 rw [List.getD_eq_getElem?_getD,List.getElem?_eq_getElem hk] at this
 refine ⟨Nat.le_trans this.1 hm,fun a ha=>?_⟩
 rw [h.1]
 exact this.2 a ha
theorem quot_ok:FnOk Tryz.prog 68 quotS:=by
 refine fn_ok Tryz.func68 (by kernel_rfl) rfl Tryz.ntmps68 (by decide) (by kernel_rfl) (tyTab_ok [(106,stepRS),(107,fromS)] [] [(30,108)]) (fns_cons stepR_ok (fns_cons from_ok fns_nil)) ?_
 rintro w0 O0 ⟨l,c,t,r,u⟩ hc - ⟨hg,hcl,htl,hcr,hr,hll,hla⟩
 simp only [quotS,entEnv]
 repeat' (first | exact trivial | refine eS rfl ?_ | refine ev_out_inv ?_ | refine rX [0,1,2,3,8,9,10,11,12,13,14,16,20,36,50,70] hc ?_ ?_ | (refine rC (fun hcond=>?_) (fun hcond=>?_)<;>try (cases hcond;done)))
 refine ev_loop (ι:={i:Nat // i≤List.length l}) (fun i=>⟨[(0,.p T23 l),(1,.p T40 c),(2,.p T40 t),(3,.p T3 r),(8,.bp 8 [] 0),(9,.bp 9 [] 0),(10,.p (.int .i64) (i.1:Int))],[(8,.box 25 true [.raw (.slice none 0 0)]),(9,.box 25 true [.sr 31 T88 0 i.1]),(31,.nest 88 108 T3 T108 (rows0 t i.1) none)]⟩) (fun i=>List.length l - i.1) ⟨0,by omega⟩ (ent_match [(8,.nm 8),(9,.nm 9),(31,.nil)] rfl rfl ?_ ?_) (fun i=>?_)
 ·first | exact eN | refine eM ?_
  rfl
 ·first | exact eN | refine eM ?_
 ·obtain ⟨i,hi⟩:=i
  repeat' (first | exact trivial | refine eS rfl ?_ | refine ev_out_inv ?_ | refine rX [0,1,2,3,8,9,10,11,12,13,14,16,20,36,50,70] hc ?_ ?_ | (refine rC (fun hcond=>?_) (fun hcond=>?_)<;>try (cases hcond;done)))
  ·refine ⟨by rw [htl];exact hcond,(rows0_len t i).symm,?_⟩
   rw [rows0_len]
   simp only [maxN]
   dsimp only [Ty.den] at *
   omega
  ·exact eV
  ·have hil:i < List.length l:=by exact eV
   refine ⟨⟨i + 1,by omega⟩,by simp only;omega,ent_match [(8,.nm 8),(9,.nm 9),(31,.nm 31)] rfl rfl ?_ ?_⟩
   ·simp only
    rw [rows0_succ]
    first | exact eN | refine eM ?_
    rw [rows0_len]
   ·first | exact eN | refine eM ?_
  ·have hil:i=List.length l:=by exact eV
   subst hil
   rw [rows0_full l c t]
   refine ev_loop (ι:={i:Nat // i≤List.length l}) (fun i=>⟨[(0,.p T23 l),(1,.p T40 c),(3,.p T3 r),(8,.bp 8 [] 0),(9,.bp 9 [] 0),(11,.p (.int .i64) (i.1:Int))],[(8,.box 25 true [.raw (.slice none 0 0)]),(9,.box 25 true [.sr 31 T88 0 (List.length l)]),(31,.nest 88 108 T3 T108 (rowsQ l c t i.1) none)]⟩) (fun i=>List.length l - i.1) ⟨0,by omega⟩ (ent_match [(8,.nm 8),(9,.nm 9),(31,.nm 31)] rfl rfl ?_ ?_) (fun i=>?_)
   ·first | exact eN | refine eM ?_
   ·first | exact eN | refine eM ?_
   ·obtain ⟨i,hi⟩:=i
    have hRo:=rowsQ_ok (t:=t) hg hla hcl hcr hi
    simp only
    repeat' (first | exact trivial | refine eS rfl ?_ | refine ev_out_inv ?_ | refine rX [0,1,2,3,8,9,10,11,12,13,14,16,20,36,50,70] hc ?_ ?_ | (refine rC (fun hcond=>?_) (fun hcond=>?_)<;>try (cases hcond;done)))
    ·rw [hcl];exact hcond
    ·have hil:i < List.length l:=by exact eV
     have hci:=hcr _ (mem_of_take_succ (c:List Int) 0 (k:=i) (by omega))
     have hm:=mem_of_take_succ (l:List GNode) (0,[]) hil
     have hla1:=hla _ hm
     have hlr:=(hg.2 _ hm).2
     have hrs:rowsQ l c t (i + 1)=nodeQ c (rowsQ l c t i) i (List.getD l i (0,[])).2:=rfl
     have hlt:(List.getD c i 0).toNat < (rowsQ l c t i).length:=by rw [hRo.1];exact eV
     generalize rowsQ l c t i=g at *
     have hGk:=fun k=>nodeQ_ok hcl hcr hRo hil (l:=(List.getD l i (0,[])).2.take k) (fun a ha=>hlr a (List.mem_of_mem_take ha))
     refine ev_loop (ι:={k:Nat // k≤(List.getD l i (0,[])).2.length}) (fun k=>⟨[(0,.p T23 l),(1,.p T40 c),(3,.p T3 r),(8,.bp 8 [] 0),(9,.bp 9 [] 0),(11,.p (.int .i64) (i:Int)),(12,.p T3 (List.getD c i 0)),(13,.p (.int .i64) (k.1:Int))],[(8,.box 25 true [.raw (.slice none 0 0)]),(9,.box 25 true [.sr 31 T88 0 (List.length l)]),(31,.nest 88 108 T3 T108 (nodeQ c g i ((List.getD l i (0,[])).2.take k.1)) none)]⟩) (fun k=>(List.getD l i (0,[])).2.length - k.1) ⟨0,by omega⟩ (ent_match [(8,.nm 8),(9,.nm 9),(31,.nm 31)] rfl rfl ?_ ?_) (fun k=>?_)
     ·first | exact eN | refine eM ?_
      exact (nodeQ_nil hlt).symm
     ·first | exact eN | refine eM ?_
     ·obtain ⟨k,hk⟩:=k
      have hGk:=hGk k
      have hst:=fun (x:Int×Int)=>nodeQ_step (l:=(List.getD l i (0,[])).2.take k) (x:=x) hlt
      have hsn:=fun (h:k < (List.getD l i (0,[])).2.length)=>take_snoc (List.getD l i (0,[])).2 (0,0) h
      simp only
      generalize hG:nodeQ c g i ((List.getD l i (0,[])).2.take k)=G at *
      have htk:List.take (List.length l) G=G:=List.take_of_length_le (by rw [hGk.1];exact Nat.le_refl _)
      have hlG:=hGk.1
      repeat' (first | exact trivial | refine eS rfl ?_ | refine ev_out_inv ?_ | refine rX [0,1,2,3,8,9,10,11,12,13,14,16,20,36,50,70] hc ?_ ?_ | (refine rC (fun hcond=>?_) (fun hcond=>?_)<;>try (cases hcond;done)))
      ·exact hcond
      ·exact ⟨by assumption,hcond⟩
      ·rw [htk,hlG];exact hci
      ·rw [htk] at hcond
       refine ev_mix drawsAny hc 19 [([3,4,5,6,7,8,9,10,11,12,13,14,15,16,17],18)] [0,1,2] (by kernel_rfl) (mxA ?_ ?_)
       ·refine ⟨hci,?_⟩
        rw [hcl]
        exact hlr _ (mem_of_take_succ (List.getD l i (0,[])).2 (0,0) (by exact eV))
       ·refine mxN hc 31 ?_ ?_
        ·have:=(hGk.2 (Int.toNat (List.getD c i 0))).1
         have h5:((List.getD l i (0,[])).2.take k).length≤1000:=Nat.le_trans (List.length_take_le _ _) (Nat.le_trans hk hla1)
         simp only [maxN]
         dsimp only [Ty.den] at *
         omega
        ·refine mxE [0,1,2,3,8,9,10,11,12,13,14,16,20,36,50,70] hc ?_ ?_ ?_
         ·trivial
         ·exact hci
         ·repeat' (first | exact trivial | refine eS rfl ?_ | refine ev_out_inv ?_ | refine rX [0,1,2,3,8,9,10,11,12,13,14,16,20,36,50,70] hc ?_ ?_ | (refine rC (fun hcond=>?_) (fun hcond=>?_)<;>try (cases hcond;done)))
          ·exact eV
          ·have hkl:k < (List.getD l i (0,[])).2.length:=by exact eV
           have hst:=(hst (List.getD (List.getD l i (0,[])).2 k (0,0))).2 hcond
           refine ⟨⟨k + 1,by omega⟩,by simp only;omega,ent_match [(8,.nm 8),(9,.nm 9),(31,.nm 31)] rfl rfl ?_ ?_⟩
           ·simp only
            rw [hsn hkl,hst]
            first | exact eN | refine eM ?_
           ·first | exact eN | refine eM ?_
      ·exact eV
      ·rw [htk] at hcond
       have hkl:k < (List.getD l i (0,[])).2.length:=by exact eV
       have hst:=(hst (List.getD (List.getD l i (0,[])).2 k (0,0))).1 hcond
       refine ⟨⟨k + 1,by omega⟩,by simp only;omega,ent_match [(8,.nm 8),(9,.nm 9),(31,.nm 31)] rfl rfl ?_ ?_⟩
       ·simp only
        rw [hsn hkl,hst]
        first | exact eN | refine eM ?_
       ·first | exact eN | refine eM ?_
      ·exact eV
      ·have hkl:(List.getD l i (0,[])).2.take k=(List.getD l i (0,[])).2:=List.take_of_length_le (by exact eV)
       rw [hkl] at hG
       rw [← hrs] at hG
       refine ⟨⟨i + 1,by omega⟩,by simp only;omega,ent_match [(8,.nm 8),(9,.nm 9),(31,.nm 31)] rfl rfl ?_ ?_⟩
       ·simp only
        rw [hG]
        first | exact eN | refine eM ?_
       ·first | exact eN | refine eM ?_
    ·have hil:i=List.length l:=by exact eV
     subst hil
     have hq:quotF l c t r=fromF (rowsQ l c t (List.length l)) (c.getD r.toNat 0):=rfl
     have hgd:=rows_good hRo (by omega) (by omega)
     have hlr:=hRo.1
     have htk:List.take (List.length l) (rowsQ l c t (List.length l))=rowsQ l c t (List.length l):=List.take_of_length_le (by rw [hlr];exact Nat.le_refl _)
     generalize rowsQ l c t (List.length l)=g at *
     refine frzE [31] ?_
     repeat' (first | exact trivial | refine eS rfl ?_ | refine ev_out_inv ?_ | refine rX [0,1,2,3,8,9,10,11,12,13,14,16,20,36,50,70] hc ?_ ?_ | (refine rC (fun hcond=>?_) (fun hcond=>?_)<;>try (cases hcond;done)))
     ·rw [htk,hlr,hcl]
      exact ⟨hr,hgd,hcr _ (mem_of_take_succ (c:List Int) 0 (by exact eV))⟩
     ·rw [htk,← hq]
      exact ev_fin hc [.cell 8 25] rfl (.inl rfl) (by simp) (by first | exact eR | refine eRM ?_)
end
/- Plain: the codes of a hierarchy are closed under intersections. -/
section
theorem famK_pre (l:List (List Int)) (i k:Nat):l <+: famK l i k:=by
 unfold famK
 split
 ·exact List.prefix_append _ _
 ·exact List.prefix_refl _
theorem famI_pre (i:Nat):∀ (n k:Nat) (l:List (List Int)),l <+: famI i n k l
 | 0,_,l=>List.prefix_refl l
 | n + 1,k,l=>by
  unfold famI
  split
  ·exact (famK_pre l i k).trans (famI_pre i n (k + 1) _)
  ·exact List.prefix_refl l
theorem famG_pre:∀ (n i:Nat) (l:List (List Int)),l <+: famG n i l
 | 0,_,l=>List.prefix_refl l
 | n + 1,i,l=>by
  unfold famG
  split
  ·exact (famI_pre i i 0 l).trans (famG_pre n (i + 1) _)
  ·exact List.prefix_refl l
theorem pre_getD {l m:List (List Int)} (h:l <+: m) {k:Nat} (hk:k < l.length):m.getD k []=l.getD k []:=by
 obtain ⟨t,rfl⟩:=h
 simp only [List.getD_eq_getElem?_getD]
 rw [List.getElem?_append_left hk]
def Meets (l:List (List Int)) (q p:Nat):Prop:=andF (l.getD q []) (l.getD p [])=[]∨andF (l.getD q []) (l.getD p [])∈l
theorem Meets.pre {l m:List (List Int)} (h:l <+: m) {q p:Nat} (hq:q < l.length) (hp:p < l.length) (hm:Meets l q p):Meets m q p:=by
 unfold Meets at hm ⊢
 rw [pre_getD h hq,pre_getD h hp]
 rcases hm with hm | hm
 ·exact .inl hm
 ·exact .inr (h.subset hm)
theorem inB_mem {l:List (List Int)} {b:List Int} (h:inBF l b=true):b∈l:=by
 obtain ⟨x,hx,e⟩:=List.any_eq_true.1 h
 have:x=b:=by simpa [sameF] using e
 rw [← this]
 exact hx
theorem famK_meets {l:List (List Int)} {i k:Nat} (hi:i < l.length) (hk:k < l.length):Meets (famK l i k) i k:=by
 have hp:=famK_pre l i k
 unfold Meets
 rw [pre_getD hp hi,pre_getD hp hk]
 unfold famK
 split
 ·right;simp
 ·rename_i hc
  rw [Bool.and_eq_true,decide_eq_true_eq,Bool.not_eq_true'] at hc
  by_cases h0:0 < ((andF (l.getD i []) (l.getD k [])).length:Int)
  ·right
   cases hh:inBF l (andF (l.getD i []) (l.getD k [])) with
   | true=>exact inB_mem hh
   | false=>exact absurd ⟨h0,hh⟩ hc
  ·left
   exact List.eq_nil_of_length_eq_zero (by omega)
theorem famI_meets {i:Nat}:∀ {n k:Nat} {l:List (List Int)},n + k=i→i < l.length→(famI i n k l).length≤256→(∀ p,p < k→Meets l i p)→∀ p,p < i→Meets (famI i n k l) i p
 | 0,k,l,hn,hi,hl,h=>fun p hp=>h p (by omega)
 | n + 1,k,l,hn,hi,hl,h=>by
  unfold famI at hl ⊢
  split at hl
  ·rename_i hc
   rw [if_pos hc]
   have hp:=famK_pre l i k
   refine famI_meets (by omega) (Nat.lt_of_lt_of_le hi hp.length_le) hl fun p hpk=>?_
   by_cases e:p=k
   ·subst e
    exact famK_meets hi (by omega)
   ·exact (h p (by omega)).pre hp hi (by omega)
  ·rename_i hc
   exact absurd (by omega:l.length≤256) hc
theorem famG_meets:∀ {n i:Nat} {l:List (List Int)},257≤n + i→(famG n i l).length≤256→i≤l.length→(∀ q p,p < q→q < i→Meets l q p)→∀ q p,p < q→q < (famG n i l).length→Meets (famG n i l) q p
 | 0,i,l,hn,hl,hil,h=>fun q p hpq hq=>by
  have hl':l.length≤256:=hl
  omega
 | n + 1,i,l,hn,hl,hil,h=>by
  unfold famG at hl ⊢
  split at hl
  ·rename_i hc
   rw [if_pos hc]
   have hp:=famI_pre i i 0 l
   have hpl:=hp.length_le
   have hgl:=(famG_pre n (i + 1) (famI i i 0 l)).length_le
   refine famG_meets (by omega) hl (by omega) fun q p hpq hq=>?_
   by_cases e:q=i
   ·subst e
    exact famI_meets (by omega) hc.1 (by omega) (fun p hp=>by omega) p hpq
   ·exact (h q p hpq (by omega)).pre hp (by omega) (by omega)
  ·rename_i hc
   rw [if_neg hc]
   intro q p hpq hq
   exact h q p hpq (by
    refine Classical.byContradiction fun hh=>hc ⟨by omega,hl⟩)
theorem family_meets {c:List (List Int)} (hl:(familyF c).length≤256):∀ q p,p < q→q < (familyF c).length→Meets (familyF c) q p :=
 famG_meets (by omega) hl (Nat.zero_le _) (fun q p _ h=>by omega)
/-! Bits -/
theorem and_getD (a b:List Int) (k:Nat):(andF a b).getD k 0=if k < a.length then bitsV .and .u64 (a.getD k 0) (b.getD k 0) else 0:=by
 unfold andF
 rw [normalF_getD]
 split
 ·rename_i h;exact zipL_getD .and a b h
 ·rename_i h
  rw [List.getD_eq_getElem?_getD,List.getElem?_eq_none (by rw [zipL_len];omega)]
  rfl
theorem getD_out {b:List Int} {k:Nat} (h:¬ k < b.length):b.getD k 0=0:=by
 rw [List.getD_eq_getElem?_getD,List.getElem?_eq_none (by omega)];rfl
theorem and_bit {a b:List Int} (ha:Wds a) (hb:Wds b) (i:Nat):bitN (andF a b) i=(bitN a i && bitN b i):=by
 unfold bitN
 rw [and_getD]
 split
 ·rw [and_bits (getD_U64 ha _) (getD_U64 hb _),Int.toNat_natCast,Nat.testBit_and]
 ·rename_i h
  rw [getD_out h]
  simp
theorem and_wds {a b:List Int} (ha:Wds a) (hb:Wds b):Wds (andF a b):=by
 refine normal_wds fun x hx=>?_
 unfold zipL at hx
 obtain ⟨i,-,rfl⟩:=List.mem_map.1 hx
 rw [wordF_nat,and_bits (getD_U64 ha _) (getD_U64 hb _)]
 have h1:=getD_U64 ha i
 have h2:(a.getD i 0).toNat &&& (b.getD i 0).toNat≤(a.getD i 0).toNat:=Nat.and_le_left
 have h3:=h1.1
 have h4:=h1.2
 exact ⟨Int.natCast_nonneg _,by omega⟩
theorem norm_last (b:List Int):∀ n,normN b n=0∨b.getD (normN b n - 1) 0≠0
 | 0=>.inl rfl
 | n + 1=>by
  unfold normN
  split
  ·exact norm_last b n
  ·rename_i h
   right
   simpa using h
theorem nat_bit {n:Nat} (h0:n≠0) (h1:n < 18446744073709551616):∃ r,r < 64∧n.testBit r=true:=by
 refine Classical.byContradiction fun hc=>h0 ?_
 refine Nat.eq_of_testBit_eq fun r=>?_
 rw [Nat.zero_testBit]
 by_cases hr:r < 64
 ·cases hb:n.testBit r with
  | false=>rfl
  | true=>exact absurd ⟨r,hr,hb⟩ hc
 ·have e:(18446744073709551616:Nat)=2 ^ 64:=by decide
  rw [e] at h1
  exact Nat.testBit_lt_two_pow (Nat.lt_of_lt_of_le h1 (Nat.pow_le_pow_right (by decide) (by omega)))
theorem word_bit {b:List Int} (hb:Wds b) {k:Nat} (h:b.getD k 0≠0):∃ i,bitN b i=true:=by
 have hu:=getD_U64 hb k
 have h1:=hu.1
 have h2:=hu.2
 obtain ⟨r,hr,ht⟩:=nat_bit (n:=(b.getD k 0).toNat) (by omega) (by omega)
 refine ⟨64 * k + r,?_⟩
 unfold bitN
 rw [show (64 * k + r) / 64=k by omega,show (64 * k + r) % 64=r by omega]
 exact ht
theorem normal_bit {b:List Int} (hb:Wds b) (h:normalF b≠[]):∃ i,bitN b i=true:=by
 rcases norm_last b b.length with h1 | h1
 ·exact absurd (by unfold normalF;rw [h1];rfl) h
 ·exact word_bit hb h1
theorem bits_word {a b:List Int} (ha:Wds a) (hb:Wds b) (h:∀ i,bitN a i=true→bitN b i=true) (k:Nat):bitsV .andNot .u64 (a.getD k 0) (b.getD k 0)=0:=by
 rw [andNot_eq]
 have:(BitVec.ofInt 64 (a.getD k 0) &&& ~~~BitVec.ofInt 64 (b.getD k 0))=0#64:=by
  apply BitVec.eq_of_getLsbD_eq
  intro r hr
  rw [BitVec.getLsbD_and,BitVec.getLsbD_not,← BitVec.testBit_toNat,← BitVec.testBit_toNat,ofInt_nat (getD_U64 ha k),ofInt_nat (getD_U64 hb k)]
  have hk:=h (64 * k + r)
  unfold bitN at hk
  rw [show (64 * k + r) / 64=k by omega,show (64 * k + r) % 64=r by omega] at hk
  cases hx:(a.getD k 0).toNat.testBit r with
  | false=>simp
  | true=>rw [hk hx];simp
 rw [this]
 rfl
theorem subset_iff {a b:List Int} (ha:Wds a) (hb:Wds b):subsetF a b=true↔∀ i,bitN a i=true→bitN b i=true:=by
 constructor
 ·exact fun h i hi=>subset_bits ha hb h hi
 ·intro h
  unfold subsetF minusF normalF
  have h1:normN (zipL .andNot a b a.length) (zipL .andNot a b a.length).length=0:=by
   rw [zipL_len]
   exact normN_all fun k hk=>by rw [zipL_getD _ _ _ hk];exact bits_word ha hb h k
  rw [h1]
  rfl
end
/- Plain: hier.Meet finds the most general common subtype. -/
section
structure CodesOk (l:List (List Int)):Prop where
 wds:∀ c∈l,Wds c
 some:∀ c∈l,∃ i,bitN c i=true
 wid:∀ c∈l,c.length≤64
 meet:∀ a∈l,∀ b∈l,(∃ i,bitN a i=true∧bitN b i=true)→∃ t∈l,∀ i,bitN t i=(bitN a i && bitN b i)
structure Bs (l:List (List Int)):Prop where
 wds:∀ c∈l,Wds c
 some:∀ c∈l,∃ i,bitN c i=true
theorem getD_mem2 {l:List (List Int)} {k:Nat} (h:¬ k < l.length):l.getD k []=[]:=by
 rw [List.getD_eq_getElem?_getD,List.getElem?_eq_none (by omega)];rfl
theorem Bs.get {l:List (List Int)} (h:Bs l) (k:Nat):Wds (l.getD k []):=by
 by_cases hk:k < l.length
 ·exact h.wds _ (getD_mem hk)
 ·rw [getD_mem2 hk]
  intro x hx
  cases hx
theorem famK_bs {l:List (List Int)} (h:Bs l) (i k:Nat):Bs (famK l i k):=by
 unfold famK
 split
 ·rename_i hc
  rw [Bool.and_eq_true,decide_eq_true_eq] at hc
  refine ⟨fun c hc'=>?_,fun c hc'=>?_⟩
  ·rcases List.mem_append.1 hc' with hc' | hc'
   ·exact h.wds c hc'
   ·have:c=andF (l.getD i []) (l.getD k []):=by simpa using hc'
    rw [this]
    exact and_wds (h.get i) (h.get k)
  ·rcases List.mem_append.1 hc' with hc' | hc'
   ·exact h.some c hc'
   ·have:c=andF (l.getD i []) (l.getD k []):=by simpa using hc'
    rw [this]
    have hne:andF (l.getD i []) (l.getD k [])≠[]:=by
     intro e
     rw [e] at hc
     exact absurd hc.1 (by simp)
    have hz:Wds (zipL .and (l.getD i []) (l.getD k []) (l.getD i []).length):=by
     intro x hx
     unfold zipL at hx
     obtain ⟨j,-,rfl⟩:=List.mem_map.1 hx
     rw [wordF_nat,and_bits (getD_U64 (h.get i) _) (getD_U64 (h.get k) _)]
     have h1:=getD_U64 (h.get i) j
     have h2:((l.getD i []).getD j 0).toNat &&& ((l.getD k []).getD j 0).toNat≤((l.getD i []).getD j 0).toNat:=Nat.and_le_left
     have h3:=h1.1
     have h4:=h1.2
     exact ⟨Int.natCast_nonneg _,by omega⟩
    obtain ⟨j,hj⟩:=normal_bit hz hne
    exact ⟨j,by unfold andF;rw [bit_normal];exact hj⟩
 ·exact h
theorem famI_bs {i:Nat}:∀ {n k:Nat} {l:List (List Int)},Bs l→Bs (famI i n k l)
 | 0,_,_,h=>h
 | n + 1,k,l,h=>by
  unfold famI
  split
  ·exact famI_bs (famK_bs h i k)
  ·exact h
theorem famG_bs:∀ {n i:Nat} {l:List (List Int)},Bs l→Bs (famG n i l)
 | 0,_,_,h=>h
 | n + 1,i,l,h=>by
  unfold famG
  split
  ·exact famG_bs (famI_bs h)
  ·exact h
theorem codesL_bs {d:List DeclD} (h3:check3F d=0):Bs (codesL d):=by
 obtain ⟨-,h2,-⟩:=check3_zero h3
 have hnl:=namesL_len d d.length
 rw [List.take_length] at hnl
 have hal:(namesL d).length≤4096:=by omega
 refine ⟨fun c hc=>?_,fun c hc=>?_⟩
 ·unfold codesL at hc
  obtain ⟨s,-,rfl⟩:=List.mem_map.1 hc
  exact (code_bit (d:=d) hal s 0).2.1
 ·unfold codesL at hc
  obtain ⟨s,hs,rfl⟩:=List.mem_map.1 hc
  obtain ⟨j,hj,e⟩:=mem_getD ByteArray.empty hs
  have hsd:0≤dfindF d s:=by
   obtain ⟨x,hx,e⟩:=namesL_mem hs
   rw [← e];exact dfind_self hx
  exact ⟨j,(code_bit (d:=d) hal s j).1.2 ⟨hj,by rw [e];exact below_self hsd⟩⟩
theorem family_ok2 {d:List DeclD} (h3:check3F d=0) (hl:(familyF (codesL d)).length≤256):CodesOk (familyF (codesL d)):=by
 obtain ⟨-,h2,-⟩:=check3_zero h3
 have hb:Bs (familyF (codesL d)):=famG_bs (codesL_bs h3)
 have hm:=family_meets hl
 refine ⟨hb.wds,hb.some,famG_wid (codesL_wid h2),fun a ha b hb2 hi=>?_⟩
 obtain ⟨q,hq,rfl⟩:=mem_getD [] ha
 obtain ⟨p,hp,rfl⟩:=mem_getD [] hb2
 have key:∀ q p,q < (familyF (codesL d)).length→p < (familyF (codesL d)).length→Meets (familyF (codesL d)) q p→(∃ i,bitN ((familyF (codesL d)).getD q []) i=true∧bitN ((familyF (codesL d)).getD p []) i=true) →
   ∃ t∈familyF (codesL d),∀ i,bitN t i=(bitN ((familyF (codesL d)).getD q []) i && bitN ((familyF (codesL d)).getD p []) i):=by
  intro q p hq hp hmm hi
  have hand:=and_bit (hb.get q) (hb.get p)
  rcases hmm with hmm | hmm
  ·obtain ⟨i,i1,i2⟩:=hi
   have:=hand i
   rw [hmm,i1,i2] at this
   unfold bitN at this
   simp at this
  ·exact ⟨_,hmm,hand⟩
 rcases Nat.lt_trichotomy p q with h | h | h
 ·exact key q p hq hp (hm q p h hq) hi
 ·subst h
  exact ⟨_,getD_mem hq,fun i=>by rw [Bool.and_self]⟩
 ·obtain ⟨t,ht,e⟩:=key p q hp hq (hm p q h hp) (by obtain ⟨i,i1,i2⟩:=hi;exact ⟨i,i2,i1⟩)
  exact ⟨t,ht,fun i=>by rw [e i,Bool.and_comm]⟩
def HOk (h:HierD):Prop:=CodesOk (h.1.map fun t=>t.2.1)∧h.1.length≤256
theorem compile_hok (d:List DeclD):HOk (compileF d).1:=by
 unfold compileF
 split
 ·exact ⟨⟨fun c h=>(by cases h),fun c h=>(by cases h),fun c h=>(by cases h),fun c h=>(by cases h)⟩,by simp⟩
 ·rename_i hv
  have hv:(valuesF d).2=0:=Classical.byContradiction hv
  have h5:check5F d=0:=by
   unfold valuesF at hv
   split at hv
   ·rename_i h;exact absurd hv h
   ·rename_i h;exact Classical.byContradiction h
  obtain ⟨hz,-,-⟩:=check5_zero h5
  obtain ⟨h3,hlen,-⟩:=codesF_zero hz
  have hf:=family_ok2 h3 hlen
  have hmem:∀ c,c∈((hierV d).1.map fun t=>t.2.1)↔c∈familyF (codesL d):=by
   intro c
   have e:((hierV d).1.map fun t=>t.2.1)=(codesR d).map fun x=>x.2:=by
    show ((typeG _ _ _).map fun t=>t.2.1)=_
    unfold typeG
    rw [List.map_map]
    apply List.ext_getElem
    ·simp
    ·intro i h1 h2
     simp [List.getD_eq_getElem?_getD,show i < (codesR d).length by simpa using h1]
   rw [e]
   constructor
   ·intro h
    obtain ⟨x,hx,rfl⟩:=List.mem_map.1 h
    obtain ⟨b,hb,rfl⟩:=codesR_mem.1 hx
    exact hb
   ·intro h
    exact List.mem_map.2 ⟨_,codesR_mem.2 ⟨c,h,rfl⟩,rfl⟩
  refine ⟨⟨fun c h=>hf.wds c ((hmem c).1 h),fun c h=>hf.some c ((hmem c).1 h),fun c h=>hf.wid c ((hmem c).1 h),fun a ha b hb hi=>?_⟩,?_⟩
  ·obtain ⟨t,ht,e⟩:=hf.meet a ((hmem a).1 ha) b ((hmem b).1 hb) hi
   exact ⟨t,(hmem t).2 ht,e⟩
  ·show (typeG _ _ _).length≤256
   rw [typeG_len,codesR_len]
   exact hlen
/-! Subsumption and meets as sets -/
theorem code_mem {h:HierD} {t:Int} (g0:0≤t) (g1:t < (h.1.length:Int)):codeT h t∈h.1.map fun t=>t.2.1 :=
 List.mem_map.2 ⟨_,mem_of_take_succ h.1 t0D (k:=t.toNat) (by omega),rfl⟩
theorem subP_iff {a b:List Int} (ha:Wds a) (hb:Wds b):subPF a b=true↔∀ i,bitN a i=true→bitN b i=true:=by
 constructor
 ·intro h i hi
  by_cases hk:i / 64 < a.length
  ·have h1:=List.all_eq_true.1 h (i / 64) (List.mem_range.2 hk)
   rw [beq_iff_eq,wordF_nat] at h1
   exact andNot_bits (getD_U64 ha _) (getD_U64 hb _) h1 (Nat.mod_lt _ (by decide)) hi
  ·exfalso
   unfold bitN at hi
   rw [getD_out hk] at hi
   simp at hi
 ·intro h
  unfold subPF
  rw [List.all_eq_true]
  intro k _
  rw [beq_iff_eq,wordF_nat]
  exact bits_word ha hb h k
theorem andP_bit {a b:List Int} (ha:Wds a) (hb:Wds b) (i:Nat):bitN (andPF a b) i=(bitN a i && bitN b i):=by
 unfold andPF
 rw [bit_normal]
 unfold bitN
 have:(fillX (andW a b) (min a.length b.length) (min a.length b.length)).getD (i / 64) 0=bitsV .and .u64 (a.getD (i / 64) 0) (b.getD (i / 64) 0):=by
  by_cases h:i / 64 < min a.length b.length
  ·unfold fillX
   rw [List.getD_eq_getElem?_getD,List.getElem?_map,List.getElem?_range h]
   show (if i / 64 < min a.length b.length then andW a b (i / 64) else 0)=_
   rw [if_pos h]
   rfl
  ·rw [getD_out (by rw [fillX_len];exact h),and_bits (getD_U64 ha _) (getD_U64 hb _)]
   by_cases h1:i / 64 < a.length
   ·rw [getD_out (b:=b) (by omega)]
    simp
   ·rw [getD_out (b:=a) h1]
    simp
 rw [this,and_bits (getD_U64 ha _) (getD_U64 hb _),Int.toNat_natCast,Nat.testBit_and]
theorem andP_wds {a b:List Int} (ha:Wds a) (hb:Wds b):Wds (andPF a b):=by
 refine normal_wds fun x hx=>?_
 unfold fillX at hx
 obtain ⟨j,-,rfl⟩:=List.mem_map.1 hx
 split
 ·unfold andW
  rw [and_bits (getD_U64 ha _) (getD_U64 hb _)]
  have h1:=getD_U64 ha j
  have h2:(a.getD j 0).toNat &&& (b.getD j 0).toNat≤(a.getD j 0).toNat:=Nat.and_le_left
  have h3:=h1.1
  have h4:=h1.2
  exact ⟨Int.natCast_nonneg _,by omega⟩
 ·exact ⟨by decide,by decide⟩
theorem meetI_spec (c:List Int):∀ (l:List TypeD) (k:Nat),(meetI c k l=-1∧∀ t∈l,equalPF t.2.1 c=false)∨((k:Int)≤meetI c k l∧meetI c k l < (k:Int) + l.length∧equalPF (l.getD ((meetI c k l).toNat - k) t0D).2.1 c=true)
 | [],k=>.inl ⟨rfl,fun t ht=>by cases ht⟩
 | x :: l,k=>by
  simp only [meetI]
  split
  ·rename_i h
   right
   refine ⟨by omega,by simp only [List.length_cons];omega,?_⟩
   rw [show ((k:Int).toNat - k)=0 by omega]
   exact h
  ·rename_i h
   have h:equalPF x.2.1 c=false:=by simpa using h
   rcases meetI_spec c l (k + 1) with ⟨h1,h2⟩ | ⟨h1,h2,h3⟩
   ·left
    refine ⟨h1,fun t ht=>?_⟩
    rcases List.mem_cons.1 ht with rfl | ht
    ·exact h
    ·exact h2 t ht
   ·right
    refine ⟨by omega,by simp only [List.length_cons];omega,?_⟩
    rw [show ((meetI c (k + 1) l).toNat - k)=((meetI c (k + 1) l).toNat - (k + 1)) + 1 by omega]
    exact h3
def Tb2 (h:HierD) (t:Int) (i:Nat):Bool:=bitN (codeT h t) i
theorem hsub_iff {h:HierD} (hk:HOk h) {a b:Int} (a0:0≤a) (a1:a < (h.1.length:Int)) (b0:0≤b) (b1:b < (h.1.length:Int)):hsubF h a b=true↔∀ i,Tb2 h b i=true→Tb2 h a i=true :=
 subP_iff (hk.1.wds _ (code_mem b0 b1)) (hk.1.wds _ (code_mem a0 a1))
theorem meet_set {h:HierD} (hk:HOk h) {a b:Int} (a0:0≤a) (a1:a < (h.1.length:Int)) (b0:0≤b) (b1:b < (h.1.length:Int)) :
  ((meetF h a b).2=true→0≤(meetF h a b).1∧(meetF h a b).1 < (h.1.length:Int)∧∀ i,Tb2 h (meetF h a b).1 i=(Tb2 h a i && Tb2 h b i))∧((∃ i,Tb2 h a i=true∧Tb2 h b i=true)→(meetF h a b).2=true):=by
 have wa:=hk.1.wds _ (code_mem a0 a1)
 have wb:=hk.1.wds _ (code_mem b0 b1)
 have hbit:=andP_bit wa wb
 have hwc:=andP_wds wa wb
 have heq:∀ t∈h.1,equalPF t.2.1 (andPF (codeT h a) (codeT h b))=true↔∀ i,bitN t.2.1 i=bitN (andPF (codeT h a) (codeT h b)) i:=by
  intro t ht
  have wt:=hk.1.wds t.2.1 (List.mem_map.2 ⟨t,ht,rfl⟩)
  unfold equalPF
  rw [Bool.and_eq_true,subP_iff wt hwc,subP_iff hwc wt]
  constructor
  ·rintro ⟨e1,e2⟩ i
   rw [Bool.eq_iff_iff]
   exact ⟨e1 i,e2 i⟩
  ·intro e
   exact ⟨fun i hi=>by rw [← e i];exact hi,fun i hi=>by rw [e i];exact hi⟩
 unfold meetF
 by_cases hz:(andPF (codeT h a) (codeT h b)).length=0
 ·rw [if_pos hz]
  refine ⟨fun e=>(by cases e),?_⟩
  rintro ⟨i,i1,i2⟩
  exfalso
  have:=hbit i
  rw [List.eq_nil_of_length_eq_zero hz] at this
  unfold Tb2 at i1 i2
  rw [i1,i2] at this
  unfold bitN at this
  simp at this
 ·rw [if_neg hz]
  rcases meetI_spec (andPF (codeT h a) (codeT h b)) h.1 0 with ⟨h1,h2⟩ | ⟨h1,h2,h3⟩
  ·rw [if_pos (by omega)]
   refine ⟨fun e=>(by cases e),fun hi=>?_⟩
   exfalso
   obtain ⟨t,ht,e⟩:=hk.1.meet _ (code_mem a0 a1) _ (code_mem b0 b1) hi
   obtain ⟨x,hx,rfl⟩:=List.mem_map.1 ht
   have:=(heq x hx).2 (fun i=>by rw [hbit i];exact e i)
   rw [h2 x hx] at this
   cases this
  ·have h1:0≤meetI (andPF (codeT h a) (codeT h b)) 0 h.1:=by omega
   rw [if_neg (by omega)]
   refine ⟨fun _=>⟨h1,by simp only;omega,fun i=>?_⟩,fun _=>rfl⟩
   rw [Nat.sub_zero] at h3
   have hm:=mem_of_take_succ h.1 t0D (k:=(meetI (andPF (codeT h a) (codeT h b)) 0 h.1).toNat) (by omega)
   have:=(heq _ hm).1 h3 i
   rw [hbit i] at this
   exact this
theorem meet_law {h:HierD} (hk:HOk h) {a b:Int} (a0:0≤a) (a1:a < (h.1.length:Int)) (b0:0≤b) (b1:b < (h.1.length:Int)) :
  ((meetF h a b).2=true→0≤(meetF h a b).1∧(meetF h a b).1 < (h.1.length:Int)∧hsubF h a (meetF h a b).1=true∧hsubF h b (meetF h a b).1=true) ∧
  ∀ x,0≤x→x < (h.1.length:Int)→hsubF h a x=true→hsubF h b x=true→(meetF h a b).2=true∧hsubF h (meetF h a b).1 x=true:=by
 obtain ⟨m1,m2⟩:=meet_set hk a0 a1 b0 b1
 refine ⟨fun e=>?_,fun x x0 x1 hax hbx=>?_⟩
 ·obtain ⟨q0,q1,q2⟩:=m1 e
  refine ⟨q0,q1,(hsub_iff hk a0 a1 q0 q1).2 fun i hi=>?_,(hsub_iff hk b0 b1 q0 q1).2 fun i hi=>?_⟩
  ·rw [q2 i,Bool.and_eq_true] at hi;exact hi.1
  ·rw [q2 i,Bool.and_eq_true] at hi;exact hi.2
 ·have ga:=(hsub_iff hk a0 a1 x0 x1).1 hax
  have gb:=(hsub_iff hk b0 b1 x0 x1).1 hbx
  obtain ⟨i,hi⟩:=hk.1.some _ (code_mem x0 x1)
  have e:=m2 ⟨i,ga i hi,gb i hi⟩
  obtain ⟨q0,q1,q2⟩:=m1 e
  refine ⟨e,(hsub_iff hk q0 q1 x0 x1).2 fun j hj=>?_⟩
  rw [q2 j,Bool.and_eq_true]
  exact ⟨ga j hj,gb j hj⟩
end
/- Functions of grammarlabref07. -/
section
abbrev NodeL:=Int×List (Int×Int)
def lightF (f:List NodeL):Bool:=decide (f.length≤12) && f.all fun n=>decide (n.2.length≤12)
def lightS:Spec:={ ins:=[T25],pre:=fun _=>True,out:=fun (f,_)=>[.p .bool (lightF f)] }
theorem light_ok:FnOk Tryz.prog 54 lightS:=by
 refine fn_ok Tryz.func54 (by kernel_rfl) rfl Tryz.ntmps54 (by decide) (by kernel_rfl) (tyTab_ok []) (fun f sp h=>by simp [lk] at h) ?_
 rintro w0 O0 ⟨l,u⟩ hc hok hpre
 simp only [lightS,entEnv]
 repeat' (first | exact trivial | refine eS rfl ?_ | refine ev_out_inv ?_ | refine rX [0,1,2,3,7,12,22] hc ?_ ?_ | (refine rC (fun hcond=>?_) (fun hcond=>?_)<;>try (cases hcond;done)))
 ·have h1:lightF l=false:=by
   have h:¬ (List.length l≤12):=by exact eV
   unfold lightF
   rw [decide_eq_false h];rfl
  exact ev_fin hc [.tmp 2] rfl (.inl rfl) (by simp) (by rw [h1];first | exact eR | refine eRM ?_)
 ·refine ev_loop (ι:={k:Nat // k≤l.length∧(l.take k).all (fun n=>decide (n.2.length≤12))=true}) (fun k=>⟨[(0,.p T25 l),(1,.bp 1 [] 0),(3,.p (.int .i64) (k.1:Int))],[(1,.box 25 true [.p T23 l])]⟩) (fun k=>l.length - k.1) ⟨0,by simp⟩ (ent_match [(1,.nm 1)] rfl rfl ?_ ?_) (fun k=>?_)
  ·first | exact eN | refine eM ?_
  ·first | exact eN | refine eM ?_
  ·obtain ⟨k,hk,hall⟩:=k
   repeat' (first | exact trivial | refine eS rfl ?_ | refine ev_out_inv ?_ | refine rX [0,1,2,3,7,12,22] hc ?_ ?_ | (refine rC (fun hcond=>?_) (fun hcond=>?_)<;>try (cases hcond;done)))
   ·exact eV
   ·have h1:lightF l=false:=by
     have hk:k < l.length:=by exact eV
     have h:=mem_of_take_succ l (0,[]) hk
     unfold lightF
     rw [Bool.and_eq_false_iff]
     right
     rw [List.all_eq_false]
     exact ⟨_,h,by simp only [decide_eq_true_eq];exact eV⟩
    exact ev_fin hc [.tmp 2] rfl (.inl rfl) (by simp) (by rw [h1];first | exact eR | refine eRM ?_)
   ·exact eV
   ·have hk:k < l.length:=by exact eV
    refine ⟨⟨k + 1,by exact eV,?_⟩,by simp only;exact eV,ent_match [(1,.nm 1)] rfl rfl ?_ ?_⟩
    ·have h1:=take_snoc l (0,[]) hk
     have h2:((l.take (k + 1)).all fun n=>decide (n.2.length≤12))=_:=congrArg (fun x=>List.all x fun n=>decide (n.2.length≤12)) h1
     rw [h2,List.all_append,hall]
     simp only [List.all_cons,List.all_nil,Bool.and_true,Bool.true_and,decide_eq_true_eq]
     exact eV
    ·first | exact eN | refine eM ?_
    ·first | exact eN | refine eM ?_
   ·have h1:lightF l=true:=by
     have hk:l.take k=l:=List.take_of_length_le (by exact eV)
     rw [hk] at hall
     unfold lightF
     rw [hall,decide_eq_true (by exact eV)];rfl
    exact ev_fin hc [.tmp 2] rfl (.inl rfl) (by simp) (by rw [h1];first | exact eR | refine eRM ?_)
end
/- Functions of grammarlabref15: LightPaths; grammarlabref07.Atom. -/
section
def atomS:Spec:={ ins:=[T3],pre:=fun _=>True,out:=fun (t,_)=>[.p T25 [(t,[])]] }
theorem atom_ok:FnOk Tryz.prog 59 atomS:=by
 refine fn_ok Tryz.func59 (by kernel_rfl) rfl Tryz.ntmps59 (by decide) (by kernel_rfl) (tyTab_ok []) fns_nil ?_
 rintro w0 O0 ⟨t,u⟩ hc - -
 simp only [atomS,entEnv]
 repeat' (first | exact trivial | refine eS rfl ?_ | refine ev_out_inv ?_ | refine rX [0,2] hc ?_ ?_ | (refine rC (fun hcond=>?_) (fun hcond=>?_)<;>try (cases hcond;done)))
 exact ev_fin hc [.cell 2 25] rfl (.inl rfl) (by simp) (by first | exact eR | refine eRM ?_)
end
/- Functions of grammarlabref15: Canonical. -/
section
attribute [local go_sem] lightS canonS equalS
def ftB (a:Int×Int):Bool:=decide (a.1 < 64)
def ndB (x:GNode):Bool:=decide (x.1 < 256) && x.2.all ftB
def canonicalB (f:List GNode):Bool:=lightF f && f.all ndB && ((canonF f).2 == 0 && (compareF (canonF f).1 f == 0))
theorem light_small {f:List GNode} (h:lightF f=true):f.length≤12∧∀ x∈f,x.2.length≤12:=by
 unfold lightF at h
 simp only [Bool.and_eq_true,decide_eq_true_eq,List.all_eq_true] at h
 exact h
theorem small_from {f:List GNode} (hf:GoodF f) {n:Int} (h0:0≤n) (h1:n < f.length):SmallF (fromF f n):=by
 obtain ⟨⟨g1,g2⟩,_⟩:=trav_ok hf h0 h1
 have hfl:=hf.1
 refine ⟨?_,fun x hx=>?_⟩
 ·unfold fromF
  rw [List.length_map]
  omega
 ·obtain ⟨m,_,rfl⟩:=List.mem_map.1 hx
  unfold nodeF
  simp only [List.length_map,sortedF_len]
  exact arcs_len hf m
theorem small_canon {f:List GNode} (hs:SmallA f):SmallF (canonF f).1:=by
 unfold canonF
 split
 ·rename_i h
  obtain ⟨h1,h2⟩:=formF_good h hs
  exact small_from h1 (by omega) (by omega)
 ·exact ⟨by simp,fun x hx=>by cases hx⟩
end
/- Functions of Go's library under graph.canonical: isNaN, Compare, byFeature, the sort of what is sorted. -/
section
def SrtA (l:List (Int×Int)):Prop:=∀ i,i + 1 < l.length→(l.getD i (0,0)).1 < (l.getD (i + 1) (0,0)).1
end
/- The plain law under graph.canonical: the program's search and the reference's are one, where each node's arcs ascend. -/
section
def dfs (f:List GNode):Nat→List Int→Int→List Int
 | 0,o,_=>o
 | k + 1,o,n=>(f.getD n.toNat (0,[])).2.foldl (fun o a=>if a.2∈o then o else dfs f k o a.2) (o++[n])
def stepD (f:List GNode) (k:Nat) (o:List Int) (a:Int×Int):List Int:=if a.2∈o then o else dfs f k o a.2
theorem dfs_succ (f:List GNode) (k:Nat) (o:List Int) (n:Int):dfs f (k + 1) o n=(f.getD n.toNat (0,[])).2.foldl (stepD f k) (o++[n]):=rfl
structure DOk (f:List GNode) (o:List Int):Prop where
 nd:o.Nodup
 rng:∀ x∈o,0≤x∧x < (f.length:Int)
theorem DOk.len {f:List GNode} {o:List Int} (h:DOk f o):o.length≤f.length:=by
 have h1:(o.map Int.toNat).Nodup:=by
  rw [List.Nodup,List.pairwise_map]
  refine h.nd.imp_of_mem fun {a b} ha hb hne e=>hne ?_
  have:=h.rng a ha
  have:=h.rng b hb
  omega
 have:=nodup_len f.length (o.map Int.toNat) h1 (fun j hj=>by
  obtain ⟨x,hx,rfl⟩:=List.mem_map.1 hj
  have:=h.rng x hx
  omega)
 simpa using this
theorem DOk.snoc {f:List GNode} {o:List Int} (h:DOk f o) {n:Int} (h0:0≤n) (h1:n < f.length) (hn:n ∉ o):DOk f (o++[n]):=by
 refine ⟨?_,fun x hx=>?_⟩
 ·rw [List.nodup_append]
  refine ⟨h.nd,by simp,fun a ha b hb=>?_⟩
  have:b=n:=by simpa using hb
  subst this
  intro e
  subst e
  exact hn ha
 ·rcases List.mem_append.1 hx with hx | hx
  ·exact h.rng x hx
  ·have:x=n:=by simpa using hx
   subst this
   exact ⟨h0,h1⟩
theorem foldD_ok {f:List GNode} {k:Nat} (hv:∀ (o:List Int) (n:Int),DOk f o→0≤n→n < f.length→n ∉ o→DOk f (dfs f k o n)∧o <+: dfs f k o n) :
  ∀ (l:List (Int×Int)) (o:List Int),(∀ a∈l,0≤a.2∧a.2 < (f.length:Int))→DOk f o→DOk f (l.foldl (stepD f k) o)∧o <+: l.foldl (stepD f k) o
 | [],o,_,h=>⟨h,List.prefix_refl _⟩
 | a :: l,o,hl,h=>by
  simp only [List.foldl_cons]
  have hstep:DOk f (stepD f k o a)∧o <+: stepD f k o a:=by
   unfold stepD
   split
   ·exact ⟨h,List.prefix_refl _⟩
   ·rename_i hn
    exact hv o a.2 h (hl a (by simp)).1 (hl a (by simp)).2 hn
  obtain ⟨g1,g2⟩:=foldD_ok hv l _ (fun b hb=>hl b (by simp [hb])) hstep.1
  exact ⟨g1,hstep.2.trans g2⟩
theorem arcs_in' {f:List GNode} (hf:GoodF f) {n:Int} {a:Int×Int} (ha:a∈(f.getD n.toNat (0,[])).2):0≤a.2∧a.2 < f.length:=by
 by_cases h:n.toNat < f.length
 ·have hm:f.getD n.toNat (0,[])∈f:=by
   rw [List.getD_eq_getElem?_getD,List.getElem?_eq_getElem h];exact List.getElem_mem h
  exact (hf.2 _ hm).2 a ha
 ·rw [List.getD_eq_getElem?_getD,List.getElem?_eq_none (by omega)] at ha
  simp at ha
theorem dfs_ok {f:List GNode} (hf:GoodF f):∀ (k:Nat) (o:List Int) (n:Int),DOk f o→0≤n→n < f.length→n ∉ o→DOk f (dfs f k o n)∧o <+: dfs f k o n
 | 0,o,n,h,_,_,_=>⟨h,List.prefix_refl _⟩
 | k + 1,o,n,h,h0,h1,h2=>by
  obtain ⟨g1,g2⟩:=foldD_ok (dfs_ok hf k) _ _ (fun a ha=>arcs_in' hf ha) (h.snoc h0 h1 h2)
  rw [dfs_succ]
  exact ⟨g1,(List.prefix_append o [n]).trans g2⟩
theorem dfs_closed {f:List GNode} (hf:GoodF f):∀ (k:Nat) (o:List Int) (n:Int),DOk f o→0≤n→n < f.length→n ∉ o→f.length - o.length≤k →
  n∈dfs f k o n∧∀ x∈dfs f k o n,x∈o∨∀ a∈(f.getD x.toNat (0,[])).2,a.2∈dfs f k o n
 | 0,o,n,h,h0,h1,h2,hk=>by
  have:=(h.snoc h0 h1 h2).len
  simp only [List.length_append,List.length_singleton] at this
  omega
 | k + 1,o,n,h,h0,h1,h2,hk=>by
  have key:∀ (l:List (Int×Int)) (t:List Int),(∀ a∈l,0≤a.2∧a.2 < (f.length:Int))→DOk f t→f.length - t.length≤k →
    (∀ a∈l,a.2∈l.foldl (stepD f k) t)∧∀ x∈l.foldl (stepD f k) t,x∈t∨∀ a∈(f.getD x.toNat (0,[])).2,a.2∈l.foldl (stepD f k) t:=by
   intro l
   induction l with
   | nil=>exact fun t _ _ _=>⟨fun a ha=>(by cases ha),fun x hx=>.inl hx⟩
   | cons a l ih =>
    intro t hl ht hlen
    simp only [List.foldl_cons]
    have hstep:DOk f (stepD f k t a)∧t <+: stepD f k t a∧a.2∈stepD f k t a∧∀ x∈stepD f k t a,x∈t∨∀ b∈(f.getD x.toNat (0,[])).2,b.2∈stepD f k t a:=by
     unfold stepD
     split
     ·rename_i hn
      exact ⟨ht,List.prefix_refl _,hn,fun x hx=>.inl hx⟩
     ·rename_i hn
      have q:=hl a (by simp)
      obtain ⟨g1,g2⟩:=dfs_ok hf k t a.2 ht q.1 q.2 hn
      obtain ⟨g3,g4⟩:=dfs_closed hf k t a.2 ht q.1 q.2 hn hlen
      exact ⟨g1,g2,g3,g4⟩
    obtain ⟨g1,g2,g3,g4⟩:=hstep
    have hle:=g2.length_le
    obtain ⟨i1,i2⟩:=ih (stepD f k t a) (fun b hb=>hl b (by simp [hb])) g1 (by omega)
    obtain ⟨_,j2⟩:=foldD_ok (dfs_ok hf k) l (stepD f k t a) (fun b hb=>hl b (by simp [hb])) g1
    refine ⟨fun b hb=>?_,fun x hx=>?_⟩
    ·rcases List.mem_cons.1 hb with rfl | hb
     ·exact j2.subset g3
     ·exact i1 b hb
    ·rcases i2 x hx with hx | hx
     ·rcases g4 x hx with hx | hx
      ·exact .inl hx
      ·exact .inr fun b hb=>j2.subset (hx b hb)
     ·exact .inr hx
  have hs:=h.snoc h0 h1 h2
  obtain ⟨g1,g2⟩:=key (f.getD n.toNat (0,[])).2 (o++[n]) (fun a ha=>arcs_in' hf ha) hs (by simp only [List.length_append,List.length_singleton];omega)
  obtain ⟨_,g3⟩:=foldD_ok (dfs_ok hf k) (f.getD n.toNat (0,[])).2 (o++[n]) (fun a ha=>arcs_in' hf ha) hs
  rw [dfs_succ]
  refine ⟨g3.subset (by simp),fun x hx=>?_⟩
  rcases g2 x hx with hx | hx
  ·rcases List.mem_append.1 hx with hx | hx
   ·exact .inl hx
   ·have:x=n:=by simpa using hx
    subst this
    exact .inr g1
  ·exact .inr hx
def idxZ (o:List Int) (x:Int):Int:=if x∈o then (o.idxOf x:Int) else 0
def renD (o:List Int) (a:Int×Int):Int×Int:=(a.1,idxZ o a.2)
def nodeD (f:List GNode) (o:List Int) (n:Int):GNode:=((f.getD n.toNat (0,[])).1,(f.getD n.toNat (0,[])).2.map (renD o))
def canonicalF (f:List GNode) (root:Int):List GNode:=(dfs f f.length [] root).map (nodeD f (dfs f f.length [] root))
def SrtF (f:List GNode):Prop:=∀ x∈f,SrtA x.2∧x.2.length≤200
theorem srt_of {f:List GNode} (hf:SrtF f) (n:Int):SrtA (f.getD n.toNat (0,[])).2∧(f.getD n.toNat (0,[])).2.length≤200:=by
 by_cases h:n.toNat < f.length
 ·have hm:f.getD n.toNat (0,[])∈f:=by
   rw [List.getD_eq_getElem?_getD,List.getElem?_eq_getElem h];exact List.getElem_mem h
  exact hf _ hm
 ·rw [List.getD_eq_getElem?_getD,List.getElem?_eq_none (by omega)]
  exact ⟨fun i hi=>by simp at hi,by simp⟩
theorem sortedF_srt {l:List (Int×Int)} (h:SrtA l):sortedF l=l:=by
 have key:∀ i,i≤l.length→sortedF (l.take i)=l.take i:=by
  intro i
  induction i with
  | zero=>intro _;rfl
  | succ i ih =>
   intro hi
   rw [take_snoc l (0,0) (by omega),sortedF_snoc,ih (by omega)]
   have hlen:(l.take i).length=i:=by rw [List.length_take];omega
   have hpos:posF (l.getD i (0,0)) (l.take i) (l.take i).length=(l.take i).length:=by
    rw [hlen]
    cases i with
    | zero=>rfl
    | succ i =>
     have h1:=h i (by omega)
     have h2:(l.take (i + 1)).getD i (0,0)=l.getD i (0,0):=by
      simp only [List.getD_eq_getElem?_getD]
      rw [List.getElem?_take];simp
     simp only [posF]
     rw [h2,if_neg (by omega)]
   unfold insF
   rw [hpos,List.take_length,List.drop_length,List.append_nil]
 have:=key l.length (Nat.le_refl _)
 rwa [List.take_length] at this
structure NumOk (f:List GNode) (num o:List Int):Prop where
 len:num.length=f.length
 get:∀ j,j < f.length→num.getD j 0=if (j:Int)∈o then (o.idxOf (j:Int):Int) else -1
theorem NumOk.neg {f:List GNode} {num o:List Int} (h:NumOk f num o) {n:Int} (h0:0≤n) (h1:n < f.length):num.getD n.toNat 0 < 0↔n ∉ o:=by
 have:=h.get n.toNat (by omega)
 rw [show ((n.toNat:Nat):Int)=n by omega] at this
 rw [this]
 split
 ·rename_i hm
  constructor
  ·intro e;omega
  ·intro e;exact absurd hm e
 ·rename_i hm
  exact ⟨fun _=>hm,fun _=>by omega⟩
theorem idxOf_mem {o:List Int} {x n:Int} (h:x∈o):(o++[n]).idxOf x=o.idxOf x:=by rw [List.idxOf_append,if_pos h]
theorem idxOf_new {o:List Int} {n:Int} (h:n ∉ o):(o++[n]).idxOf n=o.length:=by rw [List.idxOf_append,if_neg h];simp
theorem NumOk.snoc {f:List GNode} {num o:List Int} (h:NumOk f num o) {n:Int} (h0:0≤n) (h1:n < f.length) (hn:n ∉ o):NumOk f (num.set n.toNat (o.length:Int)) (o++[n]):=by
 refine ⟨by simpa using h.len,fun j hj=>?_⟩
 have hj':j < num.length:=by rw [h.len];exact hj
 by_cases e:j=n.toNat
 ·subst e
  have en:((n.toNat:Nat):Int)=n:=by omega
  rw [en]
  simp only [List.getD_eq_getElem?_getD]
  rw [List.getElem?_set_self hj',if_pos (by simp),idxOf_new hn]
  simp
 ·have en:¬ (j:Int)=n:=by omega
  simp only [List.getD_eq_getElem?_getD]
  rw [List.getElem?_set_ne (fun e'=>e e'.symm)]
  have:=h.get j hj
  simp only [List.getD_eq_getElem?_getD] at this
  rw [this]
  by_cases hm:(j:Int)∈o
  ·rw [if_pos hm,if_pos (by simp [hm]),idxOf_mem hm]
  ·rw [if_neg hm,if_neg (by simp [hm,en])]
theorem visitF_dfs {f:List GNode} (hf:GoodF f) (hs:SrtF f):∀ (k:Nat) (s:List Int×List Int) (n:Int),NumOk f s.1 s.2→DOk f s.2→0≤n→n < f.length→n ∉ s.2→(visitF f k s n).2=dfs f k s.2 n∧NumOk f (visitF f k s n).1 (visitF f k s n).2
 | 0,s,n,h,_,_,_,_=>⟨rfl,h⟩
 | k + 1,s,n,h,hd,h0,h1,h2=>by
  have key:∀ (l:List (Int×Int)) (t:List Int×List Int),(∀ a∈l,0≤a.2∧a.2 < (f.length:Int))→NumOk f t.1 t.2→DOk f t.2→(l.foldl (stepV f k) t).2=l.foldl (stepD f k) t.2∧NumOk f (l.foldl (stepV f k) t).1 (l.foldl (stepV f k) t).2:=by
   intro l
   induction l with
   | nil=>exact fun t _ ht _=>⟨rfl,ht⟩
   | cons a l ih =>
    intro t hl ht htd
    simp only [List.foldl_cons]
    have q:=hl a (by simp)
    have hq:=ht.neg q.1 q.2
    have hstep:(stepV f k t a).2=stepD f k t.2 a∧NumOk f (stepV f k t a).1 (stepV f k t a).2∧DOk f (stepV f k t a).2:=by
     unfold stepV stepD
     by_cases hm:a.2∈t.2
     ·rw [if_pos hm,if_neg (by rw [hq];exact fun e=>e hm)]
      exact ⟨rfl,ht,htd⟩
     ·rw [if_neg hm,if_pos (by rw [hq];exact hm)]
      obtain ⟨g1,g2⟩:=visitF_dfs hf hs k t a.2 ht htd q.1 q.2 hm
      exact ⟨g1,g2,by rw [g1];exact (dfs_ok hf k t.2 a.2 htd q.1 q.2 hm).1⟩
    obtain ⟨g1,g2,g3⟩:=hstep
    obtain ⟨i1,i2⟩:=ih (stepV f k t a) (fun b hb=>hl b (by simp [hb])) g2 g3
    rw [g1] at i1
    exact ⟨i1,i2⟩
  rw [visitF_succ,dfs_succ,sortedF_srt (srt_of hs n).1]
  exact key _ (s.1.set n.toNat (s.2.length:Int),s.2++[n]) (fun a ha=>arcs_in' hf ha) (h.snoc h0 h1 h2) (hd.snoc h0 h1 h2)
theorem from_canonical {f:List GNode} (hf:GoodF f) (hs:SrtF f) {root:Int} (h0:0≤root) (h1:root < f.length):fromF f root=canonicalF f root:=by
 have hn0:NumOk f (List.replicate f.length (-1)) []:=⟨by simp,fun j hj=>by simp [List.getD_eq_getElem?_getD,List.getElem?_replicate,hj]⟩
 have hd0:DOk f []:=⟨by simp,fun x hx=>by cases hx⟩
 obtain ⟨g1,g2⟩:=visitF_dfs hf hs f.length (List.replicate f.length (-1),[]) root hn0 hd0 h0 h1 (by simp)
 have g1:(travF f root).2=dfs f f.length [] root:=g1
 have g2:NumOk f (travF f root).1 (travF f root).2:=g2
 have hc:=(dfs_closed hf f.length [] root hd0 h0 h1 (by simp) (by simp)).2
 have ho:=(dfs_ok hf f.length [] root hd0 h0 h1 (by simp)).1
 unfold fromF canonicalF
 rw [g1] at g2 ⊢
 generalize dfs f f.length [] root=o at *
 refine List.map_congr_left fun x hx=>?_
 unfold nodeF nodeD
 rw [sortedF_srt (srt_of hs x).1]
 refine congrArg _ (List.map_congr_left fun a ha=>?_)
 unfold renA renD idxZ
 have hin:a.2∈o:=by
  rcases hc x hx with hx' | hx'
  ·cases hx'
  ·exact hx' a ha
 have hr:=arcs_in' hf ha
 have:=g2.get a.2.toNat (by omega)
 rw [show ((a.2.toNat:Nat):Int)=a.2 by omega] at this
 rw [this,if_pos hin,if_pos hin]
/-! The program's map of numbers -/
theorem list_snoc_ind {α:Type} {p:List α→Prop} (h0:p []) (h1:∀ l a,p l→p (l++[a])) (l:List α):p l:=by
 have:∀ n (l:List α),l.length=n→p l:=by
  intro n
  induction n with
  | zero=>intro l hl;rw [List.length_eq_zero_iff.1 hl];exact h0
  | succ n ih =>
   intro l hl
   have hne:l≠[]:=by intro e;subst e;simp at hl
   rw [← List.dropLast_concat_getLast hne]
   exact h1 _ _ (ih _ (by simp [hl]))
 exact this _ l rfl
end
/- Functions of Go's library under graph.canonical: the sort of sorted elements. -/
section
open Go
end
/- Functions of Go's library under graph.canonical: Values, AppendSeq, Collect, SortFunc, SortedFunc, of what is sorted. -/
section
open Go
end
/- Functions of graph: canonical's search. -/
section
open Go
end
/- Functions of graph: canonical, Sub. -/
section
open Go
end
/- Functions of restrict: part, at its three closures. -/
section
def partN (acc:Int→Int×Int→Bool) (f:List GNode) (i:Nat):GNode:=((f.getD i (0,[])).1,(f.getD i (0,[])).2.filter (acc (i:Int)))
def partL (acc:Int→Int×Int→Bool) (f:List GNode) (i:Nat):List GNode:=(List.range i).map (partN acc f)
def partF (acc:Int→Int×Int→Bool) (f:List GNode):List GNode:=canonicalF (partL acc f f.length) 0
theorem partL_len (acc:Int→Int×Int→Bool) (f:List GNode) (i:Nat):(partL acc f i).length=i:=by simp [partL]
theorem srtA_iff (l:List (Int×Int)):SrtA l↔l.Pairwise (fun a b=>a.1 < b.1):=by
 constructor
 ·intro h
  rw [List.pairwise_iff_getElem]
  have key:∀ d i,i + d + 1 < l.length→(l.getD i (0,0)).1 < (l.getD (i + d + 1) (0,0)).1:=by
   intro d
   induction d with
   | zero=>intro i hi;exact h i hi
   | succ d ih =>
    intro i hi
    have h1:=ih i (by omega)
    have h2:=h (i + d + 1) (by omega)
    have:i + (d + 1) + 1=i + d + 1 + 1:=by omega
    rw [this]
    omega
  intro i j hi hj hij
  have h1:=key (j - i - 1) i (by omega)
  rw [show i + (j - i - 1) + 1=j by omega] at h1
  simpa [List.getD_eq_getElem?_getD,hi,hj] using h1
 ·intro h i hi
  rw [List.pairwise_iff_getElem] at h
  have:=h i (i + 1) (by omega) hi (by omega)
  simpa [List.getD_eq_getElem?_getD,hi,show i < l.length by omega] using this
theorem srtA_filter {l:List (Int×Int)} (h:SrtA l) (p:Int×Int→Bool):SrtA (l.filter p):=by
 rw [srtA_iff] at h ⊢
 exact h.sublist List.filter_sublist
theorem part_good {f:List GNode} (hf:GoodF f) (hs:SrtF f) (acc:Int→Int×Int→Bool):GoodF (partL acc f f.length)∧SrtF (partL acc f f.length):=by
 have hget:∀ i,i < f.length→f.getD i (0,[])∈f:=fun i hi=>mem_of_take_succ f (0,[]) hi
 refine ⟨⟨by rw [partL_len];exact hf.1,fun x hx=>?_⟩,fun x hx=>?_⟩
 ·obtain ⟨i,hi,rfl⟩:=List.mem_map.1 hx
  have hi:i < f.length:=List.mem_range.1 hi
  obtain ⟨h1,h2⟩:=hf.2 _ (hget i hi)
  rw [partL_len]
  exact ⟨Nat.le_trans (List.length_filter_le _ _) h1,fun a ha=>h2 a (List.mem_filter.1 ha).1⟩
 ·obtain ⟨i,hi,rfl⟩:=List.mem_map.1 hx
  have hi:i < f.length:=List.mem_range.1 hi
  obtain ⟨h1,h2⟩:=hs _ (hget i hi)
  exact ⟨srtA_filter h1 _,Nat.le_trans (List.length_filter_le _ _) h2⟩
end
/- What a canonical feature structure is: its arcs ascend. -/
section
theorem cmpL_cons {x y:Int} {xs ys:List Int} (h:cmpL (x :: xs) (y :: ys)=0):x=y∧cmpL xs ys=0:=by
 simp only [cmpL] at h
 split at h
 ·cases h
 ·split at h
  ·cases h
  ·exact ⟨by omega,h⟩
theorem cmpL_pairs:∀ {l m:List (Int×Int)} {r s:List Int},l.length=m.length→cmpL (l.flatMap (fun a=>[a.1,a.2])++r) (m.flatMap (fun a=>[a.1,a.2])++s)=0→l=m∧cmpL r s=0
 | [],[],_,_,_,h=>⟨rfl,by simpa using h⟩
 | [],_ :: _,_,_,hl,_=>by simp at hl
 | _ :: _,[],_,_,hl,_=>by simp at hl
 | (a1,a2) :: l,(b1,b2) :: m,r,s,hl,h=>by
  have h:cmpL (a1 :: a2 :: (l.flatMap (fun a=>[a.1,a.2])++r)) (b1 :: b2 :: (m.flatMap (fun a=>[a.1,a.2])++s))=0:=by simpa using h
  obtain ⟨e1,h3⟩:=cmpL_cons h
  obtain ⟨e2,h4⟩:=cmpL_cons h3
  obtain ⟨e3,h5⟩:=cmpL_pairs (l:=l) (m:=m) (by simpa using hl) h4
  exact ⟨by rw [e1,e2,e3],h5⟩
theorem cmpL_nodes:∀ {l m:List GNode} {r s:List Int},l.length=m.length→cmpL (l.flatMap numN++r) (m.flatMap numN++s)=0→l=m∧cmpL r s=0
 | [],[],_,_,_,h=>⟨rfl,by simpa using h⟩
 | [],_ :: _,_,_,hl,_=>by simp at hl
 | _ :: _,[],_,_,hl,_=>by simp at hl
 | (a1,a2) :: l,(b1,b2) :: m,r,s,hl,h=>by
  have h:cmpL (a1 :: (a2.length:Int) :: (a2.flatMap (fun a=>[a.1,a.2])++(l.flatMap numN++r))) (b1 :: (b2.length:Int) :: (b2.flatMap (fun a=>[a.1,a.2])++(m.flatMap numN++s)))=0:=by simpa [numN] using h
  obtain ⟨e1,h3⟩:=cmpL_cons h
  obtain ⟨e2,h4⟩:=cmpL_cons h3
  obtain ⟨e3,h5⟩:=cmpL_pairs (l:=a2) (m:=b2) (by omega) h4
  obtain ⟨e4,h6⟩:=cmpL_nodes (l:=l) (m:=m) (by simpa using hl) h5
  exact ⟨by rw [e1,e3,e4],h6⟩
theorem compareF_eq {a b:List GNode} (h:compareF a b=0):a=b:=by
 unfold compareF numbersF at h
 obtain ⟨h1,h2⟩:=cmpL_cons h
 have:=cmpL_nodes (l:=a) (m:=b) (r:=[]) (s:=[]) (by omega) (by simpa using h2)
 exact this.1
theorem cmpL_self:∀ l:List Int,cmpL l l=0
 | []=>rfl
 | x :: l=>by simp [cmpL,cmpL_self l]
theorem compareF_self (a:List GNode):compareF a a=0:=cmpL_self _
/-! The sort ascends -/
theorem posF_spec (x:Int×Int) (s:List (Int×Int)):∀ n,(∀ j,posF x s n≤j→j < n→x.1 < (s.getD j (0,0)).1)∧(0 < posF x s n→(s.getD (posF x s n - 1) (0,0)).1≤x.1)
 | 0=>⟨fun j h1 h2=>by omega,fun h=>by simp [posF] at h⟩
 | n + 1=>by
  obtain ⟨h1,h2⟩:=posF_spec x s n
  unfold posF
  split
  ·rename_i hc
   refine ⟨fun j g1 g2=>?_,h2⟩
   by_cases e:j=n
   ·subst e;exact hc
   ·exact h1 j g1 (by omega)
  ·rename_i hc
   exact ⟨fun j g1 g2=>by omega,fun _=>by simp only [Nat.add_sub_cancel];omega⟩
theorem pw_get {l:List (Int×Int)} (h:l.Pairwise (fun a b=>a.1≤b.1)) {i j:Nat} (hij:i≤j) (hj:j < l.length):(l.getD i (0,0)).1≤(l.getD j (0,0)).1:=by
 rcases Nat.eq_or_lt_of_le hij with rfl | hlt
 ·exact Int.le_refl _
 ·rw [List.pairwise_iff_getElem] at h
  have:=h i j (by omega) hj hlt
  simpa [List.getD_eq_getElem?_getD,hj,show i < l.length by omega] using this
theorem insF_sorted {s:List (Int×Int)} (h:s.Pairwise (fun a b=>a.1≤b.1)) (x:Int×Int):(insF s x).Pairwise (fun a b=>a.1≤b.1):=by
 obtain ⟨h1,h2⟩:=posF_spec x s s.length
 have hp:=posF_le x s s.length
 unfold insF
 generalize posF x s s.length=p at *
 rw [List.pairwise_append,List.pairwise_append]
 have hlow:∀ a∈s.take p,a.1≤x.1:=fun a ha=>by
  obtain ⟨i,hi,rfl⟩:=List.mem_iff_getElem.1 ha
  rw [List.length_take] at hi
  have h3:=pw_get h (i:=i) (j:=p - 1) (by omega) (by omega)
  have h4:=h2 (by omega)
  have e:(s.take p)[i].1=(s.getD i (0,0)).1:=by simp [List.getD_eq_getElem?_getD,show i < s.length by omega]
  rw [e]
  omega
 have hhigh:∀ b∈s.drop p,x.1≤b.1:=fun b hb=>by
  obtain ⟨i,hi,rfl⟩:=List.mem_iff_getElem.1 hb
  rw [List.length_drop] at hi
  have h3:=h1 (p + i) (by omega) (by omega)
  have e:(s.drop p)[i].1=(s.getD (p + i) (0,0)).1:=by simp [List.getD_eq_getElem?_getD,show p + i < s.length by omega]
  rw [e]
  omega
 refine ⟨⟨h.sublist (List.take_sublist _ _),by simp,fun a ha b hb=>?_⟩,h.sublist (List.drop_sublist _ _),fun a ha b hb=>?_⟩
 ·have:b=x:=by simpa using hb
  rw [this]
  exact hlow a ha
 ·rcases List.mem_append.1 ha with ha | ha
  ·exact Int.le_trans (hlow a ha) (hhigh b hb)
  ·have:a=x:=by simpa using ha
   rw [this]
   exact hhigh b hb
theorem sortedF_sorted (l:List (Int×Int)):(sortedF l).Pairwise (fun a b=>a.1≤b.1):=by
 induction l using list_snoc_ind with
 | h0=>exact List.Pairwise.nil
 | h1 l a ih=>rw [sortedF_snoc];exact insF_sorted ih a
theorem arcsG_nodup {n:Int}:∀ {l seen:List (Int×Int)},arcsG n seen l=0→(l.map (·.1)).Nodup∧∀ a∈l,∀ b∈seen,b.1≠a.1
 | [],_,_=>⟨by simp,fun a ha=>by cases ha⟩
 | x :: l,seen,h=>by
  simp only [arcsG] at h
  split at h
  ·cases h
  ·split at h
   ·cases h
   ·rename_i h1 h2
    obtain ⟨g1,g2⟩:=arcsG_nodup h
    have h2:∀ b∈seen,b.1≠x.1:=fun b hb e=>h2 (List.any_eq_true.2 ⟨b,hb,by simp [e]⟩)
    refine ⟨?_,fun a ha b hb=>?_⟩
    ·rw [List.map_cons,List.nodup_cons]
     refine ⟨fun hm=>?_,g1⟩
     obtain ⟨a,ha,e⟩:=List.mem_map.1 hm
     exact g2 a ha x (by simp) e.symm
    ·rcases List.mem_cons.1 ha with rfl | ha
     ·exact h2 b hb
     ·exact g2 a ha b (by simp [hb])
theorem formG_arcs {m:Int}:∀ {f:List GNode},formG m f=0→∀ x∈f,arcsF x.2 m=0
 | [],_,x,hx=>by cases hx
 | y :: f,h,x,hx=>by
  simp only [formG] at h
  split at h
  ·cases h
  ·split at h
   ·rename_i h1 h2;exact absurd h h2
   ·rename_i h1 h2
    rcases List.mem_cons.1 hx with rfl | hx
    ·exact Classical.byContradiction h2
    ·exact formG_arcs h x hx
theorem strict_of {l:List (Int×Int)} (h:l.Pairwise (fun a b=>a.1≤b.1)) (hn:(l.map (·.1)).Nodup):l.Pairwise (fun a b=>a.1 < b.1):=by
 rw [List.Nodup,List.pairwise_map] at hn
 refine (h.and hn).imp fun {a b} hab=>?_
 have h1:=hab.1
 have h2:¬ a.1=b.1:=hab.2
 omega
theorem canonical_good {f:List GNode} (h:canonicalB f=true):GoodF f∧SrtF f∧0 < f.length∧lightF f=true:=by
 unfold canonicalB at h
 simp only [Bool.and_eq_true,beq_iff_eq] at h
 obtain ⟨⟨hl,_⟩,hc,he⟩:=h
 obtain ⟨hl1,hl2⟩:=light_small hl
 have hsa:SmallA f:=fun x hx=>Nat.le_trans (hl2 x hx) (by omega)
 have hform:formF f=0:=by
  unfold canonF at hc
  split at hc
  ·assumption
  ·exact hc
 obtain ⟨hg,h0⟩:=formF_good hform hsa
 have hcf:(canonF f).1=fromF f 0:=by unfold canonF;rw [if_pos hform]
 rw [hcf] at he
 have hfe:=compareF_eq he
 refine ⟨hg,fun x hx=>⟨?_,Nat.le_trans (hl2 x hx) (by omega)⟩,h0,hl⟩
 rw [← hfe] at hx
 obtain ⟨n,_,rfl⟩:=List.mem_map.1 hx
 rw [srtA_iff]
 have harcs:((f.getD n.toNat (0,[])).2.map (·.1)).Nodup:=by
  by_cases hlt:n.toNat < f.length
  ·have hm:f.getD n.toNat (0,[])∈f:=mem_of_take_succ f (0,[]) hlt
   have hfg:formG f.length f=0:=by
    unfold formF at hform
    split at hform
    ·cases hform
    ·split at hform
     ·cases hform
     ·exact hform
   exact (arcsG_nodup (formG_arcs hfg _ hm)).1
  ·rw [List.getD_eq_getElem?_getD,List.getElem?_eq_none (by omega)]
   simp
 have hst:=strict_of (sortedF_sorted (f.getD n.toNat (0,[])).2) (((sortedF_perm _).map (·.1)).nodup_iff.2 harcs)
 unfold nodeF
 simp only
 rw [List.pairwise_map]
 exact hst.imp fun hab=>hab
end
/- Plain: the breadth-first search of grammarlabref08.First. -/
section
open Go
end
/- Functions of path: Clone, firsts, First. -/
section
/-! The plain law -/
theorem getD_set_ne {α:Type} (l:List α) (d v:α) {i j:Nat} (h:i≠j):(l.set i v).getD j d=l.getD j d:=by
 simp only [List.getD_eq_getElem?_getD];rw [List.getElem?_set_ne h]
theorem getD_set_self {α:Type} (l:List α) (d v:α) {i:Nat} (h:i < l.length):(l.set i v).getD i d=v:=by
 simp only [List.getD_eq_getElem?_getD];rw [List.getElem?_set_self h];rfl
end
/- Functions of path: firsts, First. -/
section
open Go
end
/- Functions of restrict: Depth. -/
section
open Go
end
/- Functions of restrict: Keep. -/
section
abbrev KMap:=List ((Int×Int)×Bool)
def toF (l:List (Int×Int)) (x:Int):Int:=l.foldl (fun t a=>if a.1=x then a.2 else t) (-1)
end
/- Functions of grammarlablaw15: exampleHolds. -/
section
attribute [local go_sem] equalS atomS
end
/- The plain laws under RestrictWhole: the first paths lead to their nodes and are shorter than the nodes are many; all nodes of a canonical feature structure are come to. -/
section
abbrev arcsAt (f:List GNode) (n:Int):List (Int×Int):=(f.getD n.toNat (0,[])).2
def walkF (f:List GNode):Int→List Int→Option Int
 | n,[]=>some n
 | n,x :: r=>if toF (arcsAt f n) x < 0 then none else walkF f (toF (arcsAt f n) x) r
theorem walkF_snoc (f:List GNode):∀ (p:List Int) (n m x:Int),walkF f n p=some m→walkF f n (p++[x])=if toF (arcsAt f m) x < 0 then none else some (toF (arcsAt f m) x)
 | [],n,m,x,h=>by
  simp only [walkF,Option.some.injEq] at h
  subst h
  rfl
 | y :: p,n,m,x,h=>by
  simp only [walkF,List.cons_append] at h ⊢
  split at h
  ·cases h
  ·rename_i hc
   rw [if_neg hc]
   exact walkF_snoc f p _ m x h
theorem toF_arc {l:List (Int×Int)} (h:l.Pairwise (fun a b=>a.1 < b.1)) {a:Int×Int} (ha:a∈l):toF l a.1=a.2:=by
 have keep:∀ (l:List (Int×Int)) (t:Int),(∀ b∈l,¬ b.1=a.1)→l.foldl (fun t b=>if b.1=a.1 then b.2 else t) t=t:=by
  intro l
  induction l with
  | nil=>intro t _;rfl
  | cons b l ih =>
   intro t hl
   rw [List.foldl_cons,if_neg (hl b (by simp))]
   exact ih t (fun c hc=>hl c (by simp [hc]))
 obtain ⟨l1,l2,rfl⟩:=List.append_of_mem ha
 rw [List.pairwise_append,List.pairwise_cons] at h
 obtain ⟨-,⟨h2,-⟩,-⟩:=h
 unfold toF
 rw [List.foldl_append,List.foldl_cons,if_pos rfl]
 exact keep l2 _ (fun b hb e=>by have:=h2 b hb;omega)
theorem canonical_fix {f:List GNode} (h:canonicalB f=true):canonicalF f 0=f:=by
 obtain ⟨hg,hs,h0,_⟩:=canonical_good h
 unfold canonicalB at h
 simp only [Bool.and_eq_true,beq_iff_eq] at h
 obtain ⟨_,hc,he⟩:=h
 have hcf:(canonF f).1=fromF f 0:=by
  unfold canonF at hc ⊢
  split at hc
  ·rename_i hh;rw [if_pos hh]
  ·rename_i hh;exact absurd hc hh
 rw [hcf] at he
 rw [← from_canonical hg hs (by omega) (by omega)]
 exact compareF_eq he
/-! The parts -/
theorem partL_self {acc:Int→Int×Int→Bool} {f:List GNode} (h:∀ i,i < f.length→∀ a∈(f.getD i (0,[])).2,acc (i:Int) a=true):partL acc f f.length=f:=by
 apply List.ext_getElem
 ·exact partL_len _ _ _
 ·intro i h1 h2
  have e:f.getD i (0,[])=f[i]:=by simp [List.getD_eq_getElem?_getD,h2]
  have:=h i h2
  simp only [partL,List.getElem_map,List.getElem_range,partN]
  rw [List.filter_eq_self.2 this,e]
theorem partF_self {acc:Int→Int×Int→Bool} {f:List GNode} (hc:canonicalB f=true) (h:∀ i,i < f.length→∀ a∈(f.getD i (0,[])).2,acc (i:Int) a=true):partF acc f=f:=by
 unfold partF
 rw [partL_self h]
 exact canonical_fix hc
/-! Keep all paths -/
abbrev has (m:KMap) (k:Int×Int):Prop:=(mfind T183 .bool k m).getD false=true
end
/- Plain: structures that differ in their nodes' names alone have one canonical form; a part of a part is a part. -/
section
theorem dfs_more {f:List GNode} (hf:GoodF f):∀ (k:Nat) (o:List Int) (n:Int),DOk f o→0≤n→n < f.length→n ∉ o→f.length - o.length≤k→dfs f (k + 1) o n=dfs f k o n
 | 0,o,n,h,h0,h1,h2,hk=>by
  have:=(h.snoc h0 h1 h2).len
  simp only [List.length_append,List.length_singleton] at this
  omega
 | k + 1,o,n,h,h0,h1,h2,hk=>by
  rw [dfs_succ,dfs_succ]
  have key:∀ (l:List (Int×Int)) (t:List Int),(∀ a∈l,0≤a.2∧a.2 < (f.length:Int))→DOk f t→f.length - t.length≤k→l.foldl (stepD f (k + 1)) t=l.foldl (stepD f k) t:=by
   intro l
   induction l with
   | nil=>intros;rfl
   | cons a l ih =>
    intro t hl ht hlen
    have hq:=hl a (by simp)
    have hs:stepD f (k + 1) t a=stepD f k t a:=by
     unfold stepD
     split
     ·rfl
     ·rename_i hn
      exact dfs_more hf k t a.2 ht hq.1 hq.2 hn hlen
    have h3:DOk f (stepD f k t a)∧t <+: stepD f k t a:=by
     unfold stepD
     split
     ·exact ⟨ht,List.prefix_refl _⟩
     ·rename_i hn
      exact dfs_ok hf k t a.2 ht hq.1 hq.2 hn
    rw [List.foldl_cons,List.foldl_cons,hs]
    have:=h3.2.length_le
    exact ih _ (fun b hb=>hl b (by simp [hb])) h3.1 (by omega)
  exact key _ _ (fun a ha=>arcs_in' hf ha) (h.snoc h0 h1 h2) (by simp only [List.length_append,List.length_singleton];omega)
theorem dOk_nil (f:List GNode):DOk f []:=⟨by simp,fun x hx=>by cases hx⟩
theorem dfs_fuel {f:List GNode} (hf:GoodF f) {n:Int} (h0:0≤n) (h1:n < f.length):∀ m,dfs f (f.length + m) [] n=dfs f f.length [] n
 | 0=>rfl
 | m + 1=>by
  rw [← Nat.add_assoc,dfs_more hf _ [] n (dOk_nil f) h0 h1 (by simp) (by simp only [List.length_nil];omega)]
  exact dfs_fuel hf h0 h1 m
structure Iso (Q R:List GNode) (ψ:Int→Int) (C:Int→Prop):Prop where
 arc:∀ i,C i→arcsAt R (ψ i)=(arcsAt Q i).map fun a=>(a.1,ψ a.2)
 cl:∀ i,C i→∀ a∈arcsAt Q i,C a.2
 inj:∀ i j,C i→C j→ψ i=ψ j→i=j
theorem dfs_iso {Q R:List GNode} {ψ:Int→Int} {C:Int→Prop} (h:Iso Q R ψ C):∀ (k:Nat) (t:List Int) (i:Int),(∀ x∈t,C x)→C i→dfs R k (t.map ψ) (ψ i)=(dfs Q k t i).map ψ∧∀ x∈dfs Q k t i,C x
 | 0,t,i,ht,hi=>⟨rfl,ht⟩
 | k + 1,t,i,ht,hi=>by
  have key:∀ (l:List (Int×Int)) (t:List Int),(∀ a∈l,C a.2)→(∀ x∈t,C x) →
    (l.map fun a=>(a.1,ψ a.2)).foldl (stepD R k) (t.map ψ)=(l.foldl (stepD Q k) t).map ψ∧∀ x∈l.foldl (stepD Q k) t,C x:=by
   intro l
   induction l with
   | nil=>intro t _ ht;exact ⟨rfl,ht⟩
   | cons a l ih =>
    intro t hl ht
    have ha:=hl a (by simp)
    have hs:stepD R k (t.map ψ) (a.1,ψ a.2)=(stepD Q k t a).map ψ∧∀ x∈stepD Q k t a,C x:=by
     unfold stepD
     by_cases hm:a.2∈t
     ·rw [if_pos hm,if_pos (List.mem_map.2 ⟨_,hm,rfl⟩)]
      exact ⟨rfl,ht⟩
     ·have hm2:¬ ψ a.2∈t.map ψ:=by
       intro hh
       obtain ⟨x,hx,e⟩:=List.mem_map.1 hh
       exact hm (h.inj x a.2 (ht x hx) ha e ▸ hx)
      rw [if_neg hm]
      simp only [if_neg hm2]
      exact dfs_iso h k t a.2 ht ha
    rw [List.map_cons,List.foldl_cons,List.foldl_cons,hs.1]
    exact ih _ (fun b hb=>hl b (by simp [hb])) hs.2
  rw [dfs_succ,dfs_succ]
  have e:t.map ψ++[ψ i]=(t++[i]).map ψ:=by simp
  have ea:(R.getD (ψ i).toNat (0,[])).2=(arcsAt Q i).map fun a=>(a.1,ψ a.2):=h.arc i hi
  rw [ea,e]
  refine key _ _ (h.cl i hi) fun x hx=>?_
  rcases List.mem_append.1 hx with hx | hx
  ·exact ht x hx
  ·have:x=i:=by simpa using hx
   rw [this];exact hi
theorem idxZ_map {o:List Int} {ψ:Int→Int} {x:Int} (h:∀ y∈o,ψ y=ψ x→y=x):idxZ (o.map ψ) (ψ x)=idxZ o x:=by
 have hi:(o.map ψ).idxOf (ψ x)=o.idxOf x:=by
  induction o with
  | nil=>rfl
  | cons y o ih =>
   rw [List.map_cons,List.idxOf_cons,List.idxOf_cons]
   have hy:=h y (by simp)
   by_cases e:y=x
   ·subst e;simp
   ·have e2:¬ ψ y=ψ x:=fun hh=>e (hy hh)
    have b1:(y == x)=false:=by simpa using e
    have b2:(ψ y == ψ x)=false:=by simpa using e2
    rw [b1,b2,ih (fun z hz=>h z (by simp [hz]))]
 unfold idxZ
 by_cases hm:x∈o
 ·rw [if_pos hm,if_pos (List.mem_map.2 ⟨x,hm,rfl⟩),hi]
 ·rw [if_neg hm,if_neg]
  intro hh
  obtain ⟨y,hy,e⟩:=List.mem_map.1 hh
  exact hm (h y hy e ▸ hy)
theorem canonical_iso {Q R:List GNode} {ψ:Int→Int} {C:Int→Prop} (h:Iso Q R ψ C) (hQ:GoodF Q) (hC0:C 0) (h0:ψ 0=0) (hQ0:0 < Q.length) (hlen:Q.length≤R.length)
  (hty:∀ i,C i→(R.getD (ψ i).toNat (0,[])).1=(Q.getD i.toNat (0,[])).1):canonicalF R 0=canonicalF Q 0:=by
 have hd:dfs R R.length [] 0=(dfs Q Q.length [] 0).map ψ∧∀ x∈dfs Q Q.length [] 0,C x:=by
  have h1:=dfs_iso h R.length [] 0 (fun x hx=>by cases hx) hC0
  rw [h0] at h1
  have h2:=dfs_fuel hQ (n:=0) (by omega) (by omega) (R.length - Q.length)
  rw [show Q.length + (R.length - Q.length)=R.length by omega] at h2
  rw [h2] at h1
  exact h1
 unfold canonicalF
 rw [hd.1]
 generalize dfs Q Q.length [] 0=o at *
 rw [List.map_map]
 refine List.map_congr_left fun i hi=>?_
 have hci:=hd.2 i hi
 show nodeD R (o.map ψ) (ψ i)=nodeD Q o i
 unfold nodeD
 have ea:(R.getD (ψ i).toNat (0,[])).2=(arcsAt Q i).map fun a=>(a.1,ψ a.2):=h.arc i hci
 rw [hty i hci,ea,List.map_map]
 refine congrArg _ (List.map_congr_left fun a ha=>?_)
 show (a.1,idxZ (o.map ψ) (ψ a.2))=(a.1,idxZ o a.2)
 rw [idxZ_map fun y hy e=>h.inj y a.2 (hd.2 y hy) (h.cl i hci a ha) e]
/-! Nodes come to -/
structure Ord (f:List GNode) (o:List Int):Prop where
 ok:DOk f o
 zero:o.getD 0 0=0∧0 < o.length
 cl:∀ n∈o,∀ a∈arcsAt f n,a.2∈o
theorem dfs_head {f:List GNode} (hf:GoodF f) (h0:0 < f.length):[0] <+: dfs f f.length [] 0:=by
 obtain ⟨k,hk⟩:∃ k,f.length=k + 1:=⟨f.length - 1,by omega⟩
 rw [hk,dfs_succ]
 exact (foldD_ok (dfs_ok hf k) _ _ (fun a ha=>arcs_in' hf ha) ((dOk_nil f).snoc (by omega) (by omega) (by simp))).2
theorem ord_of {f:List GNode} (hf:GoodF f) (h0:0 < f.length):Ord f (dfs f f.length [] 0):=by
 have h1:=dfs_ok hf f.length [] 0 (dOk_nil f) (by omega) (by omega) (by simp)
 have h2:=dfs_closed hf f.length [] 0 (dOk_nil f) (by omega) (by omega) (by simp) (by simp)
 have h3:=dfs_head hf h0
 refine ⟨h1.1,?_,fun n hn a ha=>?_⟩
 ·obtain ⟨t,ht⟩:=h3
  rw [← ht]
  exact ⟨rfl,by simp⟩
 ·rcases h2.2 n hn with h | h
  ·cases h
  ·exact h a ha
where
 getD_mem' {l:List Int} {d:Int} {k:Nat} (h:k < l.length):l.getD k d∈l:=by
  rw [List.getD_eq_getElem?_getD,List.getElem?_eq_getElem h]
  exact List.getElem_mem h
theorem idxZ_get {o:List Int} (hn:o.Nodup) {i:Nat} (hi:i < o.length):idxZ o (o.getD i 0)=(i:Int):=by
 have e:o.getD i 0=o[i]:=by rw [List.getD_eq_getElem?_getD,List.getElem?_eq_getElem hi];rfl
 rw [e]
 unfold idxZ
 rw [if_pos (List.getElem_mem hi),hn.idxOf_getElem i hi]
theorem get_idxZ {o:List Int} {x:Int} (h:x∈o):0≤idxZ o x∧idxZ o x < (o.length:Int)∧o.getD (idxZ o x).toNat 0=x:=by
 unfold idxZ
 rw [if_pos h]
 have hl:=List.idxOf_lt_length_of_mem h
 refine ⟨by omega,by omega,?_⟩
 rw [Int.toNat_natCast,List.getD_eq_getElem?_getD,List.getElem?_eq_getElem hl]
 show o[o.idxOf x]=x
 exact List.getElem_idxOf hl
theorem canon_len (f:List GNode):(canonicalF f 0).length=(dfs f f.length [] 0).length:=by simp [canonicalF]
theorem canon_get {f:List GNode} {i:Nat} (hi:i < (dfs f f.length [] 0).length):(canonicalF f 0).getD i (0,[])=nodeD f (dfs f f.length [] 0) ((dfs f f.length [] 0).getD i 0):=by
 unfold canonicalF
 simp [List.getD_eq_getElem?_getD,hi]
theorem part_get (acc:Int→Int×Int→Bool) {f:List GNode} {n:Int} (h0:0≤n) (h1:n < f.length):(partL acc f f.length).getD n.toNat (0,[])=((f.getD n.toNat (0,[])).1,(arcsAt f n).filter (acc n)):=by
 have hn:n.toNat < f.length:=by omega
 have e:((n.toNat:Nat):Int)=n:=by omega
 unfold partL
 simp only [List.getD_eq_getElem?_getD,List.getElem?_map,List.getElem?_range hn,Option.map_some,Option.getD_some,partN]
 rw [e]
 rfl
end
/- Plain: what Keep keeps; Keep twice is Keep. -/
section
theorem toF_mem (l:List (Int×Int)) (x:Int):toF l x=-1∨∃ a∈l,a.1=x∧a.2=toF l x:=by
 have key:∀ (l:List (Int×Int)) (t:Int),l.foldl (fun t a=>if a.1=x then a.2 else t) t=t∨∃ a∈l,a.1=x∧a.2=l.foldl (fun t a=>if a.1=x then a.2 else t) t:=by
  intro l
  induction l with
  | nil=>intro t;exact .inl rfl
  | cons b l ih =>
   intro t
   rw [List.foldl_cons]
   by_cases h:b.1=x
   ·rw [if_pos h]
    rcases ih b.2 with e | ⟨a,ha,e⟩
    ·exact .inr ⟨b,by simp,h,e.symm⟩
    ·exact .inr ⟨a,by simp [ha],e⟩
   ·rw [if_neg h]
    rcases ih t with e | ⟨a,ha,e⟩
    ·exact .inl e
    ·exact .inr ⟨a,by simp [ha],e⟩
 exact key l (-1)
theorem toF_some {l:List (Int×Int)} {x:Int} (h:0≤toF l x):∃ a∈l,a.1=x∧a.2=toF l x:=by
 rcases toF_mem l x with e | h1
 ·omega
 ·exact h1
theorem part_arcs {f:List GNode} (hf:GoodF f) (hs:SrtF f) (h0:0 < f.length) (acc:Int→Int×Int→Bool) {n:Int} (hn:n∈dfs (partL acc f f.length) f.length [] 0) :
  arcsAt (partF acc f) (idxZ (dfs (partL acc f f.length) f.length [] 0) n)=((arcsAt f n).filter (acc n)).map (renD (dfs (partL acc f f.length) f.length [] 0)):=by
 obtain ⟨hPg,hPs⟩:=part_good hf hs acc
 have hPl:=partL_len acc f f.length
 have ho:=ord_of hPg (by omega)
 have hg:=fun i=>canon_get (f:=partL acc f f.length) (i:=i)
 rw [hPl] at ho hg
 obtain ⟨g0,g1,g2⟩:=get_idxZ hn
 have hr:=ho.ok.rng n hn
 rw [hPl] at hr
 show ((partF acc f).getD _ (0,[])).2=_
 have:partF acc f=canonicalF (partL acc f f.length) 0:=rfl
 rw [this,hg _ (by omega),g2]
 unfold nodeD
 rw [part_get acc hr.1 hr.2]
end
/- Plain: the first paths are shortest; Depth twice is the lesser Depth. -/
section
theorem walk_none {f:List GNode}:∀ (p:List Int) (n:Int) (z:List Int),walkF f n p=none→walkF f n (p++z)=none
 | [],_,_,h=>by cases h
 | x :: p,n,z,h=>by
  simp only [walkF,List.cons_append] at h ⊢
  split
  ·rfl
  ·rename_i hc
   rw [if_neg hc] at h
   exact walk_none p _ z h
theorem walk_last {f:List GNode} {p:List Int} {e y:Int} (h:walkF f 0 (p++[e])=some y):∃ x,walkF f 0 p=some x∧∃ a∈arcsAt f x,a.1=e∧a.2=y:=by
 cases hh:walkF f 0 p with
 | none=>rw [walk_none p 0 [e] hh] at h;cases h
 | some x =>
  have hw:=walkF_snoc f p 0 x e hh
  rw [h] at hw
  split at hw
  ·cases hw
  ·rename_i hc
   obtain ⟨a,ha,e1,e2⟩:=toF_some (l:=arcsAt f x) (x:=e) (by omega)
   exact ⟨x,rfl,a,ha,e1,by rw [e2];exact (Option.some.inj hw).symm⟩
end
/- Plain: subsume.Map finds a map if there is one; parts subsume, and parts of what subsumes subsume parts. -/
section
structure Hom (h:HierD) (a b:List GNode) (m:Int→Int):Prop where
 zero:m 0=0
 rng:∀ i,0≤i→i < (a.length:Int)→0≤m i∧m i < (b.length:Int)
 ty:∀ i,0≤i→i < (a.length:Int)→hsubF h (a.getD i.toNat (0,[])).1 (b.getD (m i).toNat (0,[])).1=true
 arc:∀ i,0≤i→i < (a.length:Int)→∀ x∈arcsAt a i,tgtF (arcsAt b (m i)) x.1=m x.2
theorem tgtF_arc {l:List (Int×Int)} (h:l.Pairwise (fun a b=>a.1 < b.1)) {a:Int×Int} (ha:a∈l):tgtF l a.1=a.2:=by
 induction l with
 | nil=>cases ha
 | cons b l ih =>
  obtain ⟨h1,h2⟩:=List.pairwise_cons.1 h
  simp only [tgtF]
  rcases List.mem_cons.1 ha with rfl | ha
  ·rw [if_pos rfl]
  ·rw [if_neg (by have:=h1 a ha;omega)]
   exact ih h2 ha
theorem tgtF_mem {l:List (Int×Int)} {e:Int} (h:0≤tgtF l e):∃ a∈l,a.1=e∧a.2=tgtF l e:=by
 induction l with
 | nil=>simp only [tgtF] at h;omega
 | cons b l ih =>
  simp only [tgtF] at h ⊢
  split
  ·rename_i hb
   exact ⟨b,by simp,hb,rfl⟩
  ·rename_i hb
   rw [if_neg hb] at h
   obtain ⟨a,ha,e1,e2⟩:=ih h
   exact ⟨a,by simp [ha],e1,e2⟩
def RO (f:List GNode):Prop:=∀ i:Int,0 < i→i < (f.length:Int)→∃ j,0≤j∧j < i∧∃ x∈arcsAt f j,x.2=i
/-! The map is found -/
theorem set_get {M:List Int} {k j:Nat} {v:Int} (hk:k < M.length):(M.set k v).getD j 0=if k=j then v else M.getD j 0:=by
 by_cases h:k=j
 ·subst h;rw [if_pos rfl,getD_set_self _ _ _ hk]
 ·rw [if_neg h,getD_set_ne _ _ _ h]
/-! What is found is a map -/
/-! A canonical form is led through in order -/
theorem dfs_lead {f:List GNode} (hf:GoodF f):∀ (k:Nat) (t:List Int) (n:Int),DOk f t→0≤n→n < f.length→n ∉ t →
  ∀ q,t.length < q→q < (dfs f k t n).length→∃ j,j < q∧∃ a∈arcsAt f ((dfs f k t n).getD j 0),a.2=(dfs f k t n).getD q 0
 | 0,t,n,h,h0,h1,h2,q,hq1,hq2=>by simp only [dfs] at hq2;omega
 | k + 1,t,n,h,h0,h1,h2,q,hq1,hq2=>by
  have key:∀ (l:List (Int×Int)) (u:List Int),(∀ a∈l,a∈arcsAt f n)→DOk f u→t++[n] <+: u →
    (∀ q,t.length < q→q < u.length→∃ j,j < q∧∃ a∈arcsAt f (u.getD j 0),a.2=u.getD q 0) →
    ∀ q,t.length < q→q < (l.foldl (stepD f k) u).length→∃ j,j < q∧∃ a∈arcsAt f ((l.foldl (stepD f k) u).getD j 0),a.2=(l.foldl (stepD f k) u).getD q 0:=by
   intro l
   induction l with
   | nil=>intro u _ _ _ hu q g1 g2;exact hu q g1 g2
   | cons a l ih =>
    intro u hl hu hpre hlead
    have ha:=hl a (by simp)
    have hr:=arcs_in' hf ha
    rw [List.foldl_cons]
    by_cases hm:a.2∈u
    ·have hs:stepD f k u a=u:=by unfold stepD;rw [if_pos hm]
     rw [hs]
     exact ih u (fun b hb=>hl b (by simp [hb])) hu hpre hlead
    ·have hs:stepD f k u a=dfs f k u a.2:=by unfold stepD;rw [if_neg hm]
     rw [hs]
     obtain ⟨d1,d2⟩:=dfs_ok hf k u a.2 hu hr.1 hr.2 hm
     have hget:∀ j,j < u.length→(dfs f k u a.2).getD j 0=u.getD j 0:=fun j hj=>by
      obtain ⟨v,hv⟩:=d2
      rw [← hv]
      simp only [List.getD_eq_getElem?_getD]
      rw [List.getElem?_append_left hj]
     have hun:u.getD t.length 0=n:=by
      obtain ⟨v,hv⟩:=hpre
      rw [← hv]
      simp [List.getD_eq_getElem?_getD]
     have hul:t.length < u.length:=by
      have:=hpre.length_le
      simp at this
      omega
     refine ih (dfs f k u a.2) (fun b hb=>hl b (by simp [hb])) d1 (hpre.trans d2) (fun q g1 g2=>?_)
     by_cases hq:q < u.length
     ·obtain ⟨j,j1,b,hb,e⟩:=hlead q g1 hq
      refine ⟨j,j1,b,?_,?_⟩
      ·rw [hget j (by omega)];exact hb
      ·rw [hget q hq];exact e
     ·by_cases hq2:q=u.length
      ·subst hq2
       refine ⟨t.length,hul,a,?_,?_⟩
       ·rw [hget _ hul,hun];exact ha
       ·cases k with
        | zero=>simp only [dfs] at g2;omega
        | succ k =>
         have hp:u++[a.2] <+: dfs f (k + 1) u a.2:=by
          rw [dfs_succ]
          exact (foldD_ok (dfs_ok hf k) _ _ (fun b hb=>arcs_in' hf hb) (hu.snoc hr.1 hr.2 hm)).2
         obtain ⟨v,hv⟩:=hp
         rw [← hv]
         simp [List.getD_eq_getElem?_getD]
      ·exact dfs_lead hf k u a.2 hu hr.1 hr.2 hm q (by omega) g2
  rw [dfs_succ] at hq2 ⊢
  exact key _ (t++[n]) (fun a ha=>ha) (h.snoc h0 h1 h2) (List.prefix_refl _) (fun q g1 g2=>by simp only [List.length_append,List.length_singleton] at g2;omega) q hq1 hq2
theorem part_RO {f:List GNode} (hf:GoodF f) (hs:SrtF f) (h0:0 < f.length) (acc:Int→Int×Int→Bool):RO (partF acc f):=by
 obtain ⟨hPg,hPs⟩:=part_good hf hs acc
 have hPl:=partL_len acc f f.length
 have ho:=ord_of hPg (by omega)
 have hcl:=canon_len (partL acc f f.length)
 have hlead:=dfs_lead hPg (partL acc f f.length).length [] 0 (dOk_nil _) (by omega) (by omega) (by simp)
 have har:=fun n hn=>part_arcs hf hs h0 acc (n:=n) hn
 rw [hPl] at ho hcl hlead
 have hpf:(partF acc f).length=(dfs (partL acc f f.length) f.length [] 0).length:=hcl
 intro i g0 g1
 rw [hpf] at g1
 generalize dfs (partL acc f f.length) f.length [] 0=o at *
 obtain ⟨j,j1,a,ha,e⟩:=hlead i.toNat (by simp only [List.length_nil];omega) (by omega)
 have hjm:o.getD j 0∈o:=mem_of_take_succ _ 0 (by omega)
 have hr:=ho.ok.rng _ hjm
 rw [hPl] at hr
 rw [arcsAt,part_get acc hr.1 hr.2] at ha
 refine ⟨(j:Int),by omega,by omega,renD o a,?_,?_⟩
 ·have:=har _ hjm
  rw [idxZ_get ho.ok.nd (by omega)] at this
  rw [this]
  exact List.mem_map.2 ⟨a,ha,rfl⟩
 ·show idxZ o a.2=i
  rw [e,idxZ_get ho.ok.nd (by omega)]
  omega
/-! Types -/
theorem subPF_refl (x:List Int):subPF x x=true:=by
 unfold subPF
 rw [List.all_eq_true]
 intro i hi
 rw [wordF_nat,beq_iff_eq]
 exact andNot_self
theorem hsub_refl (h:HierD) (t:Int):hsubF h t t=true:=subPF_refl _
end
/- Plain: a forest of representatives; a path halved leaves the representatives as they are. -/
section
abbrev par (p:List Int) (n:Int):Int:=p.getD n.toNat 0
structure Fo (p:List Int) (rk:Int→Nat):Prop where
 rng:∀ n,0≤n→n < (p.length:Int)→0≤par p n∧par p n < (p.length:Int)
 dec:∀ n,0≤n→n < (p.length:Int)→par p n≠n→rk (par p n) < rk n
inductive Rt (p:List Int):Int→Int→Prop
 | base {n:Int} (h:par p n=n):Rt p n n
 | step {n r:Int} (h:par p n≠n) (h2:Rt p (par p n) r):Rt p n r
theorem Rt.det {p:List Int} {n r s:Int} (h:Rt p n r) (g:Rt p n s):r=s:=by
 induction h with
 | base h =>
  cases g with
  | base g=>rfl
  | step g _=>exact absurd h g
 | step h _ ih =>
  cases g with
  | base g=>exact absurd g h
  | step _ g2=>exact ih g2
theorem Rt.root {p:List Int} {n r:Int} (h:Rt p n r):par p r=r:=by
 induction h with
 | base h=>exact h
 | step _ _ ih=>exact ih
theorem Fo.ex {p:List Int} {rk:Int→Nat} (h:Fo p rk):∀ (k:Nat) (n:Int),rk n≤k→0≤n→n < (p.length:Int)→∃ r,Rt p n r∧0≤r∧r < (p.length:Int)
 | 0,n,hk,h0,h1=>by
  by_cases e:par p n=n
  ·exact ⟨n,.base e,h0,h1⟩
  ·have:=h.dec n h0 h1 e
   omega
 | k + 1,n,hk,h0,h1=>by
  by_cases e:par p n=n
  ·exact ⟨n,.base e,h0,h1⟩
  ·have hd:=h.dec n h0 h1 e
   have hr:=h.rng n h0 h1
   obtain ⟨r,g1,g2,g3⟩:=h.ex k (par p n) (by omega) hr.1 hr.2
   exact ⟨r,.step e g1,g2,g3⟩
theorem Fo.root {p:List Int} {rk:Int→Nat} (h:Fo p rk) {n:Int} (h0:0≤n) (h1:n < (p.length:Int)):∃ r,Rt p n r∧0≤r∧r < (p.length:Int):=h.ex (rk n) n (Nat.le_refl _) h0 h1
theorem par_set {p:List Int} {n v:Int} (h0:0≤n) (h1:n < (p.length:Int)) (x:Int) (hx:0≤x):par (p.set n.toNat v) x=if x=n then v else par p x:=by
 unfold par
 rw [set_get (by omega)]
 by_cases e:x=n
 ·subst e;rw [if_pos rfl,if_pos rfl]
 ·rw [if_neg (by omega),if_neg e]
def halve (p:List Int) (n:Int):List Int:=p.set n.toNat (par p (par p n))
theorem halve_len (p:List Int) (n:Int):(halve p n).length=p.length:=by simp [halve]
theorem halve_fo {p:List Int} {rk:Int→Nat} (h:Fo p rk) {n:Int} (h0:0≤n) (h1:n < (p.length:Int)) (hn:par p n≠n):Fo (halve p n) rk:=by
 have hr:=h.rng n h0 h1
 have hr2:=h.rng _ hr.1 hr.2
 have hd:=h.dec n h0 h1 hn
 have hle:rk (par p (par p n))≤rk (par p n):=by
  by_cases e:par p (par p n)=par p n
  ·rw [e];exact Nat.le_refl _
  ·exact Nat.le_of_lt (h.dec _ hr.1 hr.2 e)
 refine ⟨fun x x0 x1=>?_,fun x x0 x1 hx=>?_⟩
 ·rw [halve_len] at x1 ⊢
  unfold halve
  rw [par_set h0 h1 x x0]
  split
  ·exact hr2
  ·exact h.rng x x0 x1
 ·rw [halve_len] at x1
  unfold halve at hx ⊢
  rw [par_set h0 h1 x x0] at hx ⊢
  split
  ·rename_i e
   subst e
   omega
  ·rename_i e
   rw [if_neg e] at hx
   exact h.dec x x0 x1 hx
theorem halve_rt {p:List Int} {rk:Int→Nat} (h:Fo p rk) {n:Int} (h0:0≤n) (h1:n < (p.length:Int)) (hn:par p n≠n):∀ (k:Nat) (x r:Int),rk x≤k→0≤x→x < (p.length:Int)→Rt p x r→Rt (halve p n) x r:=by
 intro k
 induction k with
 | zero =>
  intro x r hk x0 x1 hx
  have e:par p x=x:=Classical.byContradiction fun e=>by have:=h.dec x x0 x1 e;omega
  have hxn:x≠n:=fun e2=>hn (e2 ▸ e)
  have:=hx.det (.base e)
  rw [this]
  refine .base ?_
  unfold halve
  rw [par_set h0 h1 x x0,if_neg hxn]
  exact e
 | succ k ih =>
  intro x r hk x0 x1 hx
  by_cases e:par p x=x
  ·have hxn:x≠n:=fun e2=>hn (e2 ▸ e)
   have:=hx.det (.base e)
   rw [this]
   refine .base ?_
   unfold halve
   rw [par_set h0 h1 x x0,if_neg hxn]
   exact e
  ·have hd:=h.dec x x0 x1 e
   have hr:=h.rng x x0 x1
   have hx2:Rt p (par p x) r:=by
    cases hx with
    | base g=>exact absurd g e
    | step _ g=>exact g
   by_cases hxn:x=n
   ·subst hxn
    by_cases e2:par p (par p x)=par p x
    ·have:=hx2.det (.base e2)
     rw [this] at hx2 ⊢
     refine .step (r:=par p x) ?_ ?_
     ·unfold halve
      rw [par_set h0 h1 x x0,if_pos rfl,e2]
      exact e
     ·have hp:par (halve p x) x=par p x:=by
       unfold halve
       rw [par_set h0 h1 x x0,if_pos rfl,e2]
      rw [hp]
      exact ih _ _ (by omega) hr.1 hr.2 hx2
    ·have hd2:=h.dec _ hr.1 hr.2 e2
     have hr2:=h.rng _ hr.1 hr.2
     have hx3:Rt p (par p (par p x)) r:=by
      cases hx2 with
      | base g=>exact absurd g e2
      | step _ g=>exact g
     have hp:par (halve p x) x=par p (par p x):=by
      unfold halve
      rw [par_set h0 h1 x x0,if_pos rfl]
     refine .step ?_ ?_
     ·rw [hp]
      intro e3
      rw [e3] at hd2
      omega
     ·rw [hp]
      exact ih _ _ (by omega) hr2.1 hr2.2 hx3
   ·have hp:par (halve p n) x=par p x:=by
     unfold halve
     rw [par_set h0 h1 x x0,if_neg hxn]
    refine .step ?_ ?_
    ·rw [hp];exact e
    ·rw [hp]
     exact ih _ _ (by omega) hr.1 hr.2 hx2
def SameRt (p q:List Int):Prop:=p.length=q.length∧∀ x r,0≤x→x < (p.length:Int)→(Rt p x r↔Rt q x r)
theorem SameRt.refl (p:List Int):SameRt p p:=⟨rfl,fun _ _ _ _=>Iff.rfl⟩
theorem SameRt.trans {p q s:List Int} (h:SameRt p q) (g:SameRt q s):SameRt p s :=
 ⟨h.1.trans g.1,fun x r x0 x1=>(h.2 x r x0 x1).trans (g.2 x r x0 (by rw [← h.1];exact x1))⟩
theorem halve_same {p:List Int} {rk:Int→Nat} (h:Fo p rk) {n:Int} (h0:0≤n) (h1:n < (p.length:Int)) (hn:par p n≠n):SameRt p (halve p n):=by
 refine ⟨(halve_len p n).symm,fun x r x0 x1=>⟨fun hx=>halve_rt h h0 h1 hn _ x r (Nat.le_refl _) x0 x1 hx,fun hx=>?_⟩⟩
 obtain ⟨s,hs,-,-⟩:=h.root x0 x1
 have:=halve_rt h h0 h1 hn _ x s (Nat.le_refl _) x0 x1 hs
 have e:=this.det hx
 rw [← e]
 exact hs
end
end Go.Proofs.YtebfihindnhccaaGreat.Fw
