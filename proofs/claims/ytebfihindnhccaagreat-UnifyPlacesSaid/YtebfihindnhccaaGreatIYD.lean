/- Contracts of the program's and the reference's functions, and the plain laws of what they compute: V2 V3 V4 V5 V6 V9 V10 SN V11 V7 V8 H3 U13 C37 W6 W7 U17 V16 H1 LC U15 U16 H4 H5 L9 L12. -/
/- Plain: what grammarlabref11.Close does, step by step. -/
import Derived.Test.YtebfihindnhccaaGreatIYC
import Derived.Test.YtebfihindnhccaaGreatIYA
import Derived.Test.YtebfihindnhccaaGreatIYB
import Derived.Test.YtebfihindnhccaaGreatIZI
set_option linter.unusedVariables false
set_option linter.unusedSimpArgs false
namespace Go.Proofs.YtebfihindnhccaaGreat.Fw
open Go
attribute [local irreducible] Ev
attribute [local go_sem] Yx AN List.toList_toArray Bi evG evK Uc EU JT GK FY Fq Ni J4 B4 DB Le CK CZ frz cD GF DA A5 FL Bg AV.frz AV.frzs AV.drp AV.drps AV.names AV.namess aq GH J3 JL RG IE BS BV Ik Ef Ho Eg Hq Hp Hr R5 Na Gb JM FO EA R6 O9 tS Il Hs KS Ey EE RH CP EF El PA PB KT II JN Cn Cg E7 DZ G9 DX Em DY EH FQ CK CX RF O8 Mm GB IH IG KR MT Nf KV KY KW JQ QT KX JR Wn Nh Ng AV.trn AV.trns Dy CO Obj.trn I0 ZI Cp DK Co EI CY Eo Av lk Gm GG G0 zN cC Ud cF QR pH pI zR AV.cells Bx Ii NZ JP Nc CF MR Ty.cell1 Hn Ee DW Fm Ml Ex JK KQ QP GE Ga MM RE R3 KO JJ Wk Ya QQ MS Cl Ij RV.flat Ty.flat Ty.size St.add upd Ua BT Value.oneCell' KJ Ty.dflt Hm Ny HG OH List.take_succ_cons List.take_zero List.length_cons Y7 Y8 OG Ix Kn Gy Iy uP FZ Lo Lp Lq Lr PK PM Ls Hw SQ Option.map_some Option.map_none Option.bind_some Option.getD_some Option.getD_none Option.isNone_none Option.isNone_some Bool.and_true Bool.true_and Bool.and_false Bool.false_and Bool.not_true Bool.not_false if_true if_false List.length_cons List.length_nil and_true true_and and_self List.all_cons List.all_nil List.append_nil List.nil_append List.cons_append List.getElem?_cons_zero List.getElem?_cons_succ List.getElem?_nil List.map_cons List.map_nil List.set_cons_zero List.set_cons_succ List.isEmpty_nil List.isEmpty_cons decide_true decide_false beq_self_eq_true bne_self_eq_false Nat.zero_add Nat.add_zero Nat.sub_zero Int.toNat_natCast Int.toNat_zero Int.toNat_one List.take_length List.length_append List.length_singleton true_or or_true or_self false_or or_false Ty.agg.injEq Ty.slice.injEq Ty.prod.injEq Ty.int.injEq Option.some.injEq beq_iff_eq Kl evMG evMQ uS HI Kj Bm Iw GL N9 Iu HH Hx Ja J8 Mv MZ Mw RL Kk OB OC Iv Aa Ak Op.operands Call.operands List.filterMap_cons List.filterMap_nil List.append_eq Bool.cond_false_right Bool.cond_true_left cond_true cond_false implies_true decide_eq_true_eq beq_true beq_false Bool.or_true Bool.or_false Bool.true_or Bool.false_or Option.isSome_some FM Lf Ep G7 Wm Nb FP Fy Fx Ht G8 JO KU Ue cE Ub inB JS QQX GC Im BG Y9 List.drop_zero Db HJ XI B9 Je B7 AV.fgt AV.fgts Obj.fgt Au Aj Aa Ct Hk BF GM List.any_cons List.any_nil dC ZC XJ ZD Kp PR qs List.flatMap_cons List.flatMap_nil List.cons_append tn XM I1 List.take_succ_cons List.drop_succ_cons XQ HN Bh gX Lx Bv CG Ae FX JZ BD FW F2 HF Qj
attribute [local go_sem] ty1 ty2 ty3 ty4 ty5 ty9 A0p A0q A0r A0s A0t A0u A0v A0w A0x A0y A0z A0A A0B A0C A0D A0E A0F A0G A0H A0I A0J A0K A0L A0M A0N A0O A0P A0Q A0R A0S A0T A0U A0V A0W A0X A0Y A0Z A10 A11 A12 A13 A14 A15 A16 A17 A18 A19 A1a A1b A1c A1d A1e A1f A1g A1h A1i A1j A1k A1l A1m A1n A1o A1p A1q A1r A1s A1t A1u A1v A1w A1x A1y A1z A1A A1B A1C A1D A1E hD hH hZ iA iB iC iD iE iG iH iI iJ iK iL iM iO iP iQ iR iT iU iV iW iX iY iZ i3 i4 i5 i6 i7 i8 i9 jA jB jC jD jE jF jG jH jI jJ jK jL jM jN jO jP jQ jR jS jT jU jV jW jX jY jZ j3 j4 j5 j6 j7 j8 j9 kA kB kC kD kE kF kG kH kI kJ kK kL kM kN kO kP kQ kR kS kT kU kV kW kX kY kZ k4 k5 k6 k7 k8 k9 lA lB lC lD lE lF lG lH lI lJ lK lL lM lN lO lQ lR lS lU lV lW lX lY lZ l5 l6 l7 l8 l9 mA mB mC mD mE mF mG mH mI mJ mK mL mM mN mO mP mQ mR mS mT mU mV mW mX mY mZ m5 m6 m7 m8 m9 nA nB nC nD nE nF nG nH nI nJ nK
set_option maxRecDepth 100000
set_option maxHeartbeats 4000000
section
def D9 (l h:List (Int×Int)):List (Int×Int):=h.filterMap fun x=>if (Dv l x.1).2=true then some ((Dv l x.1).1,x.2) else none
def FJ (l h:List (Int×Int)):List (Int×Int):=l++h.filter fun x=>!(Dv l x.1).2
theorem UJ (l h:List (Int×Int)):(FJ l h).length+(D9 l h).length=l.length+h.length:=by
 unfold FJ D9
 induction h with
 | nil=>simp
 | cons x h ih =>
  simp only[List.length_append,List.filter_cons,List.filterMap_cons,List.length_cons]at ih ⊢
  cases hx:(Dv l x.1).2
  ·simp only[Bool.not_false,if_true,Bool.false_eq_true,if_false,List.length_cons];omega
  ·simp only[Bool.not_true,Bool.false_eq_true,if_false,if_true,List.length_cons];omega
theorem YH {l h:List (Int×Int)} {x:Int×Int} (hx:(Dv l x.1).2=true):D9 l (h++[x])=D9 l h++[((Dv l x.1).1,x.2)]∧FJ l (h++[x])=FJ l h:=by
 unfold D9 FJ
 simp[List.filterMap_append,hx]
theorem YI {l h:List (Int×Int)} {x:Int×Int} (hx:(Dv l x.1).2=false):D9 l (h++[x])=D9 l h∧FJ l (h++[x])=FJ l h++[x]:=by
 unfold D9 FJ
 simp[List.filterMap_append,hx]
theorem Ry {l:List (Int×Int)} {e:Int} (h:(Dv l e).2=true):(e,(Dv l e).1)∈l:=by
 induction l with
 | nil=>cases h
 | cons a r ih =>
  unfold Dv at h ⊢
  by_cases ha:a.1=e
  ·rw[if_pos ha];subst ha;exact List.mem_cons_self
  ·rw[if_neg ha]at h ⊢;exact List.mem_cons_of_mem _ (ih h)
theorem bE {l:List (Int×Int)} {e:Int} (a:Int×Int) (ha:a∈l) (he:a.1=e):(Dv l e).2=true:=by
 induction l with
 | nil=>cases ha
 | cons b r ih =>
  unfold Dv
  by_cases hb:b.1=e
  ·rw[if_pos hb]
  ·rw[if_neg hb]
   rcases List.mem_cons.1 ha with rfl|ha
   ·exact absurd he hb
   ·exact ih ha
/-! Sums -/
def O2:Nat→(Nat→Nat)→Nat
 | 0,_=>0
 | n+1,f=>O2 n f+f n
theorem fI {n:Nat} {f g:Nat→Nat} (h:∀k,k<n→g k=f k):O2 n g=O2 n f:=by
 induction n with
 | zero=>rfl
 | succ n ih=>simp only[O2];rw[ih fun k hk=>h k (by omega),h n (by omega)]
theorem bF {n:Nat} {f g:Nat→Nat} {a:Nat} (ha:a<n) (h:∀k,k<n→k≠a→g k=f k):O2 n g+f a=O2 n f+g a:=by
 induction n with
 | zero=>omega
 | succ n ih =>
  simp only[O2]
  by_cases e:a=n
  ·subst e
   rw[fI (n:=a) (f:=f) fun k hk=>h k (by omega) (by omega)];omega
  ·have:=ih (by omega) fun k hk=>h k (by omega)
   have:=h n (by omega) (fun h=>e h.symm)
   omega
theorem bG {n:Nat} {f g:Nat→Nat} {a b:Nat} (ha:a<n) (hb:b<n) (hab:a≠b) (h:∀k,k<n→k≠a→k≠b→g k=f k):O2 n g+f a+f b=O2 n f+g a+g b:=by
 have h1:=bF (f:=f) (g:=fun k=>if k=a then g a else f k) ha (fun k hk hka=>by simp only[if_neg hka])
 have h2:=bF (f:=fun k=>if k=a then g a else f k) (g:=g) hb (fun k hk hkb=>by
  by_cases e:k=a
  ·subst e;simp
  ·simp only[if_neg e];exact h k hk e hkb)
 simp only[if_true,if_neg (fun e:b=a=>hab e.symm)]at h1 h2
 omega
theorem yL {n:Nat} {f:Nat→Nat} {a b:Nat} (ha:a<n) (hb:b<n) (hab:a≠b):f a+f b≤O2 n f:=by
 have:=bG (f:=f) (g:=fun k=>if k=a∨k=b then 0 else f k) ha hb hab (fun k _ h1 h2=>by simp[h1,h2])
 simp at this
 omega
theorem fJ {n B:Nat} {f:Nat→Nat} (h:∀k,k<n→f k≤B):O2 n f≤n*B:=by
 induction n with
 | zero=>simp[O2]
 | succ n ih =>
  simp only[O2]
  have:=ih fun k hk=>h k (by omega)
  have:=h n (by omega)
  rw[Nat.succ_mul]
  omega
/-! The state -/
def NU (o:List Int) (ar:List (List (Int×Int))):Nat:=O2 o.length fun k=>if o.getD k 0=(k:Int) then (ar.getD k []).length else 0
structure CI (n:Nat) (o:List Int) (ar:List (List (Int×Int))) (W:List (Int×Int)):Prop where
 lo:o.length=n
 la:ar.length=n
 rep:∀k:Nat,k<n→0≤o.getD k 0∧o.getD k 0≤(k:Int)∧o.getD (o.getD k 0).toNat 0=o.getD k 0
 wr:∀w∈W,(0≤w.1∧w.1<(n:Int))∧(0≤w.2∧w.2<(n:Int))
 ta:∀k,∀a∈ar.getD k [],0≤a.2∧a.2<(n:Int)
theorem CI.rng {n:Nat} {o:List Int} {ar:List (List (Int×Int))} {W:List (Int×Int)} (h:CI n o ar W) {x:Int} (x0:0≤x) (x1:x<(n:Int)):0≤o.getD x.toNat 0∧o.getD x.toNat 0<(n:Int)∧o.getD (o.getD x.toNat 0).toNat 0=o.getD x.toNat 0:=by
 obtain⟨h1,h2,h3⟩:=h.rep x.toNat (by omega)
 exact⟨h1,by omega,h3⟩
theorem MJ {c:List Int} {m n:Int} {k:Nat} (hk:k<c.length):(B2 c m n).getD k 0=Gv (CJ c m n) (Du c m n) (c.getD k 0):=by
 unfold B2
 rw[List.getD_eq_getElem?_getD,List.getElem?_map,List.getElem?_eq_getElem hk,List.getD_eq_getElem?_getD,List.getElem?_eq_getElem hk];rfl
theorem JG (c:List Int) (m n:Int):(B2 c m n).length=c.length:=by simp[B2]
structure LH (o:List Int) (n:Nat) (lo hi:Int):Prop where
 l0:0≤lo
 lt:lo<hi
 h1:hi<(n:Int)
 rl:o.getD lo.toNat 0=lo
 rh:o.getD hi.toNat 0=hi
section
variable {n:Nat} {o:List Int} {ar:List (List (Int×Int))} {W:List (Int×Int)} {x y:Int}
theorem yM (h:CI n o ar W) (x0:0≤x) (x1:x<(n:Int)) (y0:0≤y) (y1:y<(n:Int)) (hne:Du o x y≠CJ o x y):LH o n (Du o x y) (CJ o x y):=by
 obtain⟨a1,a2,a3⟩:=h.rng x0 x1
 obtain⟨b1,b2,b3⟩:=h.rng y0 y1
 unfold Du CJ at hne ⊢
 by_cases e1:o.getD y.toNat 0<o.getD x.toNat 0
 ·rw[if_pos e1,if_neg (by omega)]
  exact⟨b1,e1,a2,b3,a3⟩
 ·rw[if_neg e1]at hne ⊢
  by_cases e2:o.getD x.toNat 0<o.getD y.toNat 0
  ·rw[if_pos e2]
   exact⟨a1,e2,b2,a3,b3⟩
  ·rw[if_neg e2]at hne
   exact absurd rfl hne
theorem o9 {w:Int×Int} (h:CI n o ar (w :: W)):CI n o ar W:=⟨h.lo,h.la,h.rep,fun u hu=>h.wr u (List.mem_cons_of_mem _ hu),h.ta⟩
theorem Hf (l:List (List (Int×Int))) (v:List (Int×Int)) (i j:Nat) (hi:i<l.length):(l.set i v).getD j []=if j=i then v else l.getD j []:=by
 simp only[List.getD_eq_getElem?_getD,List.getElem?_set]
 by_cases e:i=j
 ·subst e;simp[hi]
 ·rw[if_neg e,if_neg (fun h=>e h.symm)]
theorem Gh {hi lo v:Int} (h:v≠hi):Gv hi lo v=v:=if_neg h
theorem Hg {hi lo:Int}:Gv hi lo hi=lo:=if_pos rfl
theorem bH (h:CI n o ar W) (hl:LH o n (Du o x y) (CJ o x y)) :
  CI n (B2 o x y) (ar.set (Du o x y).toNat (FJ (ar.getD (Du o x y).toNat []) (ar.getD (CJ o x y).toNat []))) (W++D9 (ar.getD (Du o x y).toNat []) (ar.getD (CJ o x y).toNat [])):=by
 have hg:=fun(k:Nat) (hk:k<n)=>MJ (m:=x) (n:=y) (show k<o.length by rw[h.lo];exact hk)
 have hml:=JG o x y
 generalize Du o x y=lo at *
 generalize CJ o x y=hi at *
 obtain⟨l0,lt,h1,rl,rh⟩:=hl
 have hlo:=h.lo
 have hla:=h.la
 refine⟨by rw[hml];exact hlo,by rw[List.length_set];exact hla,fun k hk=>?_,fun w hw=>?_,fun k a ha=>?_⟩
 ·obtain⟨r1,r2,r3⟩:=h.rep k hk
  rw[hg k hk]
  by_cases e:o.getD k 0=hi
  ·rw[e,Hg,hg _ (by omega),rl,Gh (by omega)]
   exact⟨l0,by omega,rfl⟩
  ·rw[Gh e,hg _ (by omega),r3,Gh e]
   exact⟨r1,r2,rfl⟩
 ·rcases List.mem_append.1 hw with hw|hw
  ·exact h.wr w hw
  ·obtain⟨a,ha,he⟩:=List.mem_filterMap.1 hw
   split at he
   ·rename_i ht
    cases he
    exact⟨h.ta _ _ (Ry ht),h.ta _ a ha⟩
   ·cases he
 ·rw[Hf _ _ _ _ (by omega)]at ha
  split at ha
  ·rcases List.mem_append.1 ha with ha|ha
   ·exact h.ta _ a ha
   ·exact h.ta _ a (List.mem_filter.1 ha).1
  ·exact h.ta _ a ha
theorem UK (h:CI n o ar W) (hl:LH o n (Du o x y) (CJ o x y)) :
  NU (B2 o x y) (ar.set (Du o x y).toNat (FJ (ar.getD (Du o x y).toNat []) (ar.getD (CJ o x y).toNat [])))+(D9 (ar.getD (Du o x y).toNat []) (ar.getD (CJ o x y).toNat [])).length=NU o ar:=by
 have hg:=fun(k:Nat) (hk:k<n)=>MJ (m:=x) (n:=y) (show k<o.length by rw[h.lo];exact hk)
 have hml:=JG o x y
 generalize Du o x y=lo at *
 generalize CJ o x y=hi at *
 obtain⟨l0,lt,h1,rl,rh⟩:=hl
 have hlo:=h.lo
 have hla:=h.la
 have hbl:=UJ (ar.getD lo.toNat []) (ar.getD hi.toNat [])
 have hs:=bG (n:=n) (f:=fun k=>if o.getD k 0=(k:Int) then (ar.getD k []).length else 0)
  (g:=fun k=>if (B2 o x y).getD k 0=(k:Int) then ((ar.set lo.toNat (FJ (ar.getD lo.toNat []) (ar.getD hi.toNat []))).getD k []).length else 0)
  (a:=lo.toNat) (b:=hi.toNat) (by omega) (by omega) (by omega) (fun k hk k1 k2=>by
   rw[hg k hk,Hf _ _ _ _ (by omega),if_neg k1]
   by_cases e:o.getD k 0=hi
   ·rw[e,Hg,if_neg (by omega),if_neg (by omega)]
   ·rw[Gh e])
 have e1:(o.getD lo.toNat 0=((lo.toNat:Nat):Int)):=by rw[rl];omega
 have e2:(o.getD hi.toNat 0=((hi.toNat:Nat):Int)):=by rw[rh];omega
 have e3:((B2 o x y).getD lo.toNat 0=((lo.toNat:Nat):Int)):=by rw[hg _ (by omega),rl,Gh (by omega)];omega
 have e4:¬((B2 o x y).getD hi.toNat 0=((hi.toNat:Nat):Int)):=by rw[hg _ (by omega),rh,Hg];omega
 simp only[if_pos e1,if_pos e2,if_pos e3,if_neg e4]at hs
 rw[Hf _ _ _ _ (by omega),if_pos rfl]at hs
 unfold NU
 rw[hml,hlo]
 omega
theorem yN (h:CI n o ar W) {lo hi:Int} (hl:LH o n lo hi):(ar.getD lo.toNat []).length+(ar.getD hi.toNat []).length≤NU o ar:=by
 obtain⟨l0,lt,h1,rl,rh⟩:=hl
 have hlo:=h.lo
 have:=yL (n:=n) (f:=fun k=>if o.getD k 0=(k:Int) then (ar.getD k []).length else 0) (a:=lo.toNat) (b:=hi.toNat) (by omega) (by omega) (by omega)
 have e1:(o.getD lo.toNat 0=((lo.toNat:Nat):Int)):=by rw[rl];omega
 have e2:(o.getD hi.toNat 0=((hi.toNat:Nat):Int)):=by rw[rh];omega
 simp only[if_pos e1,if_pos e2]at this
 unfold NU
 rw[hlo]
 exact this
end
def Id:Nat→List Int→List (List (Int×Int))→List (Int×Int)→List Int
 | 0,o,_,_=>o
 | _+1,o,_,[]=>o
 | k+1,o,ar,w :: W=>if Du o w.1 w.2=CJ o w.1 w.2 then Id k o ar W
  else Id k (B2 o w.1 w.2) (ar.set (Du o w.1 w.2).toNat (FJ (ar.getD (Du o w.1 w.2).toNat []) (ar.getD (CJ o w.1 w.2).toNat []))) (W++D9 (ar.getD (Du o w.1 w.2).toNat []) (ar.getD (CJ o w.1 w.2).toNat []))
theorem fK (k:Nat) (o:List Int) (ar:List (List (Int×Int))):Id k o ar []=o:=by cases k<;>rfl
def ET (c:List Int) (i:Nat):List (Int×Int):=((List.range i).filter fun(k:Nat)=>decide (c.getD k 0≠(k:Int))).map fun(k:Nat)=>((k:Int),c.getD k 0)
theorem sY (c:List Int) (i:Nat):(ET c i).length≤i:=by
 unfold ET
 rw[List.length_map]
 exact Nat.le_trans (List.length_filter_le _ _) (by simp)
theorem bI {c:List Int} {i:Nat} (h:c.getD i 0≠(i:Int)):ET c (i+1)=ET c i++[((i:Int),c.getD i 0)]:=by
 unfold ET
 have e:[i].filter (fun(k:Nat)=>decide (c.getD k 0≠(k:Int)))=[i]:=by rw[List.filter_cons,if_pos (by simpa using h)];rfl
 rw[List.range_succ,List.filter_append,List.map_append,e];rfl
theorem bJ {c:List Int} {i:Nat} (h:c.getD i 0=(i:Int)):ET c (i+1)=ET c i:=by
 unfold ET
 have e:[i].filter (fun(k:Nat)=>decide (c.getD k 0≠(k:Int)))=[]:=by rw[List.filter_cons,if_neg (by simpa using h)];rfl
 rw[List.range_succ,List.filter_append,List.map_append,e,List.map_nil,List.append_nil]
def Fv (l:List AE):List (List (Int×Int)):=l.map (·.2)
theorem JH (l:List AE) (k:Nat):(Fv l).getD k []=(l.getD k (0,[])).2:=by
 unfold Fv
 rw[List.getD_eq_getElem?_getD,List.getElem?_map,List.getD_eq_getElem?_getD]
 cases l[k]?<;>rfl
def QC (l:List AE) (c:List Int):List Int:=Id (NU (Az l.length) (Fv l)+(ET c l.length).length) (Az l.length) (Fv l) (ET c l.length)
theorem bK {l:List AE} (hl:AY l) {c:List Int} (hc:∀x∈c,0≤x∧x<(l.length:Int)) (hcl:c.length=l.length):CI l.length (Az l.length) (Fv l) (ET c l.length):=by
 refine⟨Cf _,by simp[Fv],fun k hk=>?_,fun w hw=>?_,fun k a ha=>?_⟩
 ·rw[E6 hk]
  exact⟨by omega,by omega,by rw[E6 (by omega)];omega⟩
 ·unfold ET at hw
  obtain⟨k,hk,rfl⟩:=List.mem_map.1 hw
  have hk:=(List.mem_filter.1 hk).1
  have hk:=List.mem_range.1 hk
  refine⟨⟨by simp only;omega,by simp only;omega⟩,hc _ (AD c 0 (by omega))⟩
 ·rw[JH]at ha
  by_cases hk:k<l.length
  ·exact(hl.2 _ (AD l (0,[]) hk)).2 a ha
  ·rw[List.getD_eq_getElem?_getD,List.getElem?_eq_none (by omega)]at ha
   cases ha
theorem fL {l:List AE} (hl:AY l):NU (Az l.length) (Fv l)≤10000000000:=by
 unfold NU
 rw[Cf]
 have:=fJ (n:=l.length) (B:=100000) (f:=fun k=>if (Az l.length).getD k 0=(k:Int) then ((Fv l).getD k []).length else 0) (fun k hk=>by
  split
  ·rw[JH]
   exact(hl.2 _ (AD l (0,[]) hk)).1
  ·omega)
 have h1:=hl.1
 have:l.length*100000≤100000*100000:=Nat.mul_le_mul_right _ h1
 omega
end
/- Functions of grammarlabref11: Close. -/
section
attribute [local go_sem] YE YG
def UL:Af:={ ins:=[Fl,Ek],pre:=fun(l,c,_)=>AY l∧List.length c=List.length l∧(∀x∈(c:List Int),0≤x∧x<(List.length l:Int)),out:=fun(l,c,_)=>[.p Ek (QC l c)] }
attribute [local go_sem] UL
def arI (l:List AE) (i:Nat):List (List (Int×Int)):=Fv (l.take i)++List.replicate (l.length-i) []
theorem pA {l:List AE} {i:Nat} (h:i<l.length):(arI l i).set i (l.getD i (0,[])).2=arI l (i+1):=by
 unfold arI
 have hl:(Fv (l.take i)).length=i:=by simp[Fv];omega
 rw[List.set_append_right _ _ (by omega),hl,Nat.sub_self,show l.length-i=(l.length-(i+1))+1 by omega,List.replicate_succ,List.set_cons_zero,Ac l (0,[]) h]
 simp[Fv]
theorem yO (l:List AE):arI l l.length=Fv l:=by
 unfold arI
 simp
theorem yP (l:List AE):arI l 0=List.replicate l.length []:=by
 unfold arI
 simp[Fv]
def yQ (o:List Int) (hi lo:Int) (k:Nat):List Int:=(o.take k).map (Gv hi lo)++o.drop k
theorem pB {o:List Int} {hi lo:Int} {k:Nat} (h:k<o.length):(yQ o hi lo k).getD k 0=o.getD k 0:=by
 unfold yQ
 rw[List.getD_eq_getElem?_getD,List.getElem?_append_right (by simp;omega)]
 simp only[List.length_map,List.length_take,Nat.min_eq_left (Nat.le_of_lt h),Nat.sub_self,List.getElem?_drop,Nat.add_zero]
 rw[List.getD_eq_getElem?_getD]
theorem yR {o:List Int} {hi lo:Int} {k:Nat} (h:k<o.length) (e:o.getD k 0≠hi):yQ o hi lo (k+1)=yQ o hi lo k:=by
 unfold yQ
 rw[Ac o 0 h,List.map_append,List.map_singleton,Gh e,List.append_assoc]
 congr 1
 rw[List.drop_eq_getElem_cons h,List.getD_eq_getElem?_getD,List.getElem?_eq_getElem h];rfl
theorem A2r {o:List Int} {hi lo:Int} {k:Nat} (h:k<o.length) (e:o.getD k 0=hi):yQ o hi lo (k+1)=(yQ o hi lo k).set k lo:=by
 unfold yQ
 rw[List.set_append_right _ _ (by simp;omega)]
 simp only[List.length_map,List.length_take,Nat.min_eq_left (Nat.le_of_lt h),Nat.sub_self]
 rw[List.drop_eq_getElem_cons h,List.set_cons_zero,Ac o 0 h,List.map_append,List.map_singleton,e,Hg,List.append_assoc];rfl
theorem yS (o:List Int) (hi lo:Int):yQ o hi lo o.length=o.map (Gv hi lo):=by
 unfold yQ
 simp
theorem yT:Al Tryz.prog 64 UL:=by
 refine AU Tryz.func64 (by kernel_rfl) rfl Tryz.ntmps64 (by decide) (by kernel_rfl) (AG [(66,YE),(104,YG)]) (AF yI (AF yK AJ)) ?_
 rintro w0 O0 ⟨l,c,u⟩ hc-⟨hg,hcl,hcr⟩
 simp only[UL,AN]
 have hl1:=hg.1
 repeat'(first|exact trivial|refine eS rfl ?_|refine AB ?_|refine rX [0,1,4,5,6,7,8,9,10,11,12,13,14,15,16,17,27,43,56,95,99,107,124,144] hc ?_ ?_|refine rC ?_ ?_<;>intro AA<;>try(cases AA;done))
 ·exact eV
 ·simp only[AP];exact eV
 ·rw[←yP]
  rw[Cf]
  refine AL (ι:={i:Nat//i≤l.length}) (fun i=>⟨[(0,.p Fl l),(1,.p Ek c),(5,.sr 20 T3 0 l.length),(6,.sr 23 CE 0 l.length),(7,.sr 52 IT 0 (ET c i.1).length),(8,.p (.int .i64) (i.1:Int))],[(20,.arr 3 T3 (Az l.length)),(23,.arr 86 CE (arI l i.1)),(52,.arr 158 IT (ET c i.1))]⟩) (fun i=>l.length-i.1) ⟨0,by omega⟩ (AC [(20,.nm 20),(23,.nm 23),(52,.nil)] rfl rfl ?_ ?_) (fun i=>?_)
  ·first|exact eN|refine eM ?_
   rfl
  ·first|exact eN|refine eM ?_
   rfl
  ·obtain⟨i,hi⟩:=i
   have htl:=sY c i
   repeat'(first|exact trivial|refine eS rfl ?_|refine AB ?_|refine rX [0,1,4,5,6,7,8,9,10,11,12,13,14,15,16,17,27,43,56,95,99,107,124,144] hc ?_ ?_|refine rC ?_ ?_<;>intro AA<;>try(cases AA;done))
   ·exact AA
   ·rw[hcl];exact AA
   ·refine⟨by rw[hcl];assumption,?_⟩
    simp only[AP];omega
   ·exact eV
   ·have hil:i<l.length:=by exact eV
    have hne:c.getD i 0≠(i:Int):=AA
    refine⟨⟨i+1,by omega⟩,by simp only;omega,AC [(20,.nm 20),(23,.nm 23),(52,.nm 52)] rfl rfl ?_ ?_⟩
    ·simp only
     rw[bI hne,←pA hil]
     first|exact eN|refine eM ?_
    ·first|exact eN|refine eM ?_
     rw[bI hne,List.length_append];rfl
   ·exact eV
   ·have hil:i<l.length:=by exact eV
    have he:c.getD i 0=(i:Int):=by simpa using AA
    refine⟨⟨i+1,by omega⟩,by simp only;omega,AC [(20,.nm 20),(23,.nm 23),(52,.nm 52)] rfl rfl ?_ ?_⟩
    ·simp only
     rw[bJ he,←pA hil]
     first|exact eN|refine eM ?_
    ·first|exact eN|refine eM ?_
     rw[bJ he]
   ·have hil:i=l.length:=by exact eV
    subst hil
    rw[yO]
    have hci:=bK hg hcr hcl
    have hw0:=fL hg
    have hcf:Id (NU (Az l.length) (Fv l)+(ET c l.length).length) (Az l.length) (Fv l) (ET c l.length)=QC l c:=rfl
    generalize ET c l.length=T0 at *
    generalize Az l.length=o0 at *
    generalize Fv l=ar0 at *
    generalize QC l c=res at *
    generalize List.length l=n at *
    refine AL (ι:={s:(List Int×List (List (Int×Int)))×(List (Int×Int)×Nat)//CI n s.1.1 s.1.2 s.2.1∧s.2.2≤s.2.1.length∧s.2.1.length+NU s.1.1 s.1.2≤10000100000∧Id (NU s.1.1 s.1.2+(s.2.1.length-s.2.2)) s.1.1 s.1.2 (s.2.1.drop s.2.2)=res}) (fun s=>⟨[(5,.sr 20 T3 0 n),(6,.sr 23 CE 0 n),(7,.sr 52 IT 0 s.1.2.1.length),(9,.p (.int .i64) (s.1.2.2:Int))],[(20,.arr 3 T3 s.1.1.1),(23,.arr 86 CE s.1.1.2),(52,.arr 158 IT s.1.2.1)]⟩) (fun s=>NU s.1.1.1 s.1.1.2+(s.1.2.1.length-s.1.2.2)) ⟨((o0,ar0),(T0,0)),hci,by simp,by simp only;omega,by simpa using hcf⟩ (AC [(20,.nm 20),(23,.nm 23),(52,.nm 52)] rfl rfl ?_ ?_) (fun s=>?_)
    ·first|exact eN|refine eM ?_
    ·first|exact eN|refine eM ?_
    ·obtain⟨⟨⟨o,ar⟩,⟨T,i⟩⟩,hI,hi,hM,hcl⟩:=s
     simp only at hI hi hM hcl
     simp only
     have ho:=hI.lo
     have ha:=hI.la
     have hwr:i<T.length→(0≤(T.getD i (0,0)).1∧(T.getD i (0,0)).1<(n:Int))∧(0≤(T.getD i (0,0)).2∧(T.getD i (0,0)).2<(n:Int)):=fun h=>hI.wr _ (AD T (0,0) h)
     have hdr:i<T.length→T.drop i=T.getD i (0,0) :: T.drop (i+1):=fun h=>by
      rw[List.drop_eq_getElem_cons h,List.getD_eq_getElem?_getD,List.getElem?_eq_getElem h];rfl
     have hfu:i<T.length→NU o ar+(T.length-i)=(NU o ar+(T.length-(i+1)))+1:=fun h=>by omega
     generalize hw:T.getD i (0,0)=w at *
     have hlo:(if o.getD (Int.toNat w.2) 0<o.getD (Int.toNat w.1) 0 then o.getD (Int.toNat w.2) 0 else o.getD (Int.toNat w.1) 0)=Du o w.1 w.2:=rfl
     have hhi:(if o.getD (Int.toNat w.1) 0<o.getD (Int.toNat w.2) 0 then o.getD (Int.toNat w.2) 0 else o.getD (Int.toNat w.1) 0)=CJ o w.1 w.2:=rfl
     repeat'(first|exact trivial|refine eS rfl ?_|refine AB ?_|refine rX [0,1,4,5,6,7,8,9,10,11,12,13,14,15,16,17,27,43,56,95,99,107,124,144] hc ?_ ?_|refine rC ?_ ?_<;>intro AA<;>try(cases AA;done))
     ·have h1:i<T.length:=by exact eV
      rw[hw]
      have:=hwr h1
      exact⟨AA,this.1,AA,this.2⟩
     ·have h1:i<T.length:=by exact eV
      rw[hw]
      have:=hwr h1
      exact⟨AA,this.1,AA,this.2⟩
     ·have h1:i<T.length:=by exact eV
      have:T.length≤10000100000:=by omega
      omega
     ·have h1:i<T.length:=by exact eV
      rw[hw,hlo,hhi]at AA
      refine⟨⟨((o,ar),(T,i+1)),hI,by simp only;omega,hM,?_⟩,by simp only;omega,AC [(20,.nm 20),(23,.nm 23),(52,.nm 52)] rfl rfl ?_ ?_⟩
      ·simp only
       rw[hdr h1,hfu h1]at hcl
       simp only[Id]at hcl
       rw[if_pos AA]at hcl
       exact hcl
      ·first|exact eN|refine eM ?_
      ·first|exact eN|refine eM ?_
     ·have h1:i<T.length:=by exact eV
      rw[hw,hlo,hhi]at AA ⊢
      have hwr:=hwr h1
      have hLH:=yM hI hwr.1.1 hwr.1.2 hwr.2.1 hwr.2.2 AA
      have hCI:=bH hI hLH
      have hws:=UK hI hLH
      have hw2:=yN hI hLH
      rw[hdr h1,hfu h1]at hcl
      simp only[Id]at hcl
      rw[if_neg AA]at hcl
      have hmg:B2 o w.1 w.2=o.map (Gv (CJ o w.1 w.2) (Du o w.1 w.2)):=rfl
      have hml:=JG o w.1 w.2
      generalize Du o w.1 w.2=lo at *
      generalize CJ o w.1 w.2=hh at *
      refine AL (ι:={k:Nat//k≤o.length}) (fun k=>⟨[(5,.sr 20 T3 0 n),(6,.sr 23 CE 0 n),(7,.sr 52 IT 0 T.length),(9,.p (.int .i64) (i:Int)),(10,.p T3 lo),(11,.p T3 hh),(12,.p (.int .i64) (k.1:Int))],[(20,.arr 3 T3 (yQ o hh lo k.1)),(23,.arr 86 CE ar),(52,.arr 158 IT T)]⟩) (fun k=>o.length-k.1) ⟨0,by omega⟩ (AC [(20,.nm 20),(23,.nm 23),(52,.nm 52)] rfl rfl ?_ ?_) (fun k=>?_)
      ·first|exact eN|refine eM ?_
       rfl
      ·first|exact eN|refine eM ?_
      ·obtain⟨k,hk⟩:=k
       simp only
       repeat'(first|exact trivial|refine eS rfl ?_|refine AB ?_|refine rX [0,1,4,5,6,7,8,9,10,11,12,13,14,15,16,17,27,43,56,95,99,107,124,144] hc ?_ ?_|refine rC ?_ ?_<;>intro AA<;>try(cases AA;done))
       ·exact AA
       ·assumption
       ·exact eV
       ·have hko:k<o.length:=by rw[ho];exact eV
        rw[pB hko]at AA
        refine⟨⟨k+1,by omega⟩,by simp only;omega,AC [(20,.nm 20),(23,.nm 23),(52,.nm 52)] rfl rfl ?_ ?_⟩
        ·simp only
         rw[A2r hko AA]
         first|exact eN|refine eM ?_
        ·first|exact eN|refine eM ?_
       ·exact eV
       ·have hko:k<o.length:=by rw[ho];exact eV
        rw[pB hko]at AA
        refine⟨⟨k+1,by omega⟩,by simp only;omega,AC [(20,.nm 20),(23,.nm 23),(52,.nm 52)] rfl rfl ?_ ?_⟩
        ·simp only
         rw[yR hko AA]
         first|exact eN|refine eM ?_
        ·first|exact eN|refine eM ?_
       ·refine⟨⟨hLH.l0,Int.lt_trans hLH.lt hLH.h1⟩,?_⟩
        simp only[AP]
        dsimp only[Ty.den]at *
        omega
       ·have hkn:k=o.length:=by rw[ho]at hk ⊢;exact eV
        subst hkn
        rw[yS,←hmg]
        have hb0:FJ (ar.getD lo.toNat []) ((ar.getD hh.toNat []).take 0)=ar.getD lo.toNat []:=by simp[FJ]
        have hd0:D9 (ar.getD lo.toNat []) ((ar.getD hh.toNat []).take 0)=[]:=by simp[D9]
        have hbl:=UJ (ar.getD lo.toNat []) (ar.getD hh.toNat [])
        refine AL (ι:={k:Nat//k≤(ar.getD hh.toNat []).length}) (fun k=>⟨[(5,.sr 20 T3 0 n),(6,.sr 23 CE 0 n),(7,.sr 52 IT 0 (T++D9 (ar.getD lo.toNat []) ((ar.getD hh.toNat []).take k.1)).length),(9,.p (.int .i64) (i:Int)),(10,.p T3 lo),(11,.p T3 hh),(13,.sr 112 Aq 0 (FJ (ar.getD lo.toNat []) ((ar.getD hh.toNat []).take k.1)).length),(14,.p (.int .i64) (k.1:Int))],[(20,.arr 3 T3 (B2 o w.1 w.2)),(23,.arr 86 CE ar),(52,.arr 158 IT (T++D9 (ar.getD lo.toNat []) ((ar.getD hh.toNat []).take k.1))),(112,.arr 108 Aq (FJ (ar.getD lo.toNat []) ((ar.getD hh.toNat []).take k.1)))]⟩) (fun k=>(ar.getD hh.toNat []).length-k.1) ⟨0,by omega⟩ (AC [(20,.nm 20),(23,.nm 23),(52,.nm 52),(112,.nm 112)] rfl rfl ?_ ?_) (fun k=>?_)
        ·simp only
         rw[hb0,hd0,List.append_nil]
         first|exact eN|refine eM ?_
        ·simp only
         rw[hb0,hd0,List.append_nil]
         first|exact eN|refine eM ?_
        ·obtain⟨k,hk⟩:=k
         simp only
         have hbk:=UJ (ar.getD lo.toNat []) ((ar.getD hh.toNat []).take k)
         have htk:=List.length_take_le k (ar.getD hh.toNat [])
         have hsn:=fun(h:k<(ar.getD hh.toNat []).length)=>Ac (ar.getD hh.toNat []) (0,0) h
         have hst:=fun(x:Int×Int) (h:(Dv (ar.getD lo.toNat []) x.1).2=true)=>YH (h:=(ar.getD hh.toNat []).take k) h
         have hsf:=fun(x:Int×Int) (h:(Dv (ar.getD lo.toNat []) x.1).2=false)=>YI (h:=(ar.getD hh.toNat []).take k) h
         have hh0:0≤hh∧hh<(n:Int):=⟨Int.le_trans hLH.l0 (Int.le_of_lt hLH.lt),hLH.h1⟩
         have hl0:0≤lo∧lo<(n:Int):=⟨hLH.l0,Int.lt_trans hLH.lt hLH.h1⟩
         repeat'(first|exact trivial|refine eS rfl ?_|refine AB ?_|refine rX [0,1,4,5,6,7,8,9,10,11,12,13,14,15,16,17,27,43,56,95,99,107,124,144] hc ?_ ?_|refine rC ?_ ?_<;>intro AA<;>try(cases AA;done))
         ·exact hh0
         ·exact⟨hh0,AA⟩
         ·exact hl0
         ·simp only[AP]
          dsimp only[Ty.den]at *
          omega
         ·exact eV
         ·have hk1:k<(ar.getD hh.toNat []).length:=by exact eV
          refine⟨⟨k+1,by omega⟩,by simp only;omega,AC [(20,.nm 20),(23,.nm 23),(52,.nm 52),(112,.nm 112)] rfl rfl ?_ ?_⟩
          ·simp only
           rw[hsn hk1,(hst _ AA).1,(hst _ AA).2,←List.append_assoc]
           first|exact eN|refine eM ?_
          ·simp only
           rw[hsn hk1,(hst _ AA).1,(hst _ AA).2,←List.append_assoc]
           first|exact eN|refine eM ?_
         ·simp only[AP]
          dsimp only[Ty.den]at *
          omega
         ·exact eV
         ·have hk1:k<(ar.getD hh.toNat []).length:=by exact eV
          refine⟨⟨k+1,by omega⟩,by simp only;omega,AC [(20,.nm 20),(23,.nm 23),(52,.nm 52),(112,.nm 112)] rfl rfl ?_ ?_⟩
          ·simp only
           rw[hsn hk1,(hsf _ AA).1,(hsf _ AA).2]
           first|exact eN|refine eM ?_
          ·simp only
           rw[hsn hk1,(hsf _ AA).1,(hsf _ AA).2]
           first|exact eN|refine eM ?_
         ·exact hl0
         ·have h1:i<T.length:=by exact eV
          have:T.length≤10000100000:=by omega
          omega
         ·have h1:i<T.length:=by exact eV
          have hkf:(ar.getD hh.toNat []).take k=ar.getD hh.toNat []:=List.take_of_length_le (by exact eV)
          rw[hkf]
          refine⟨⟨((B2 o w.1 w.2,ar.set lo.toNat (FJ (ar.getD lo.toNat []) (ar.getD hh.toNat []))),(T++D9 (ar.getD lo.toNat []) (ar.getD hh.toNat []),i+1)),hCI,by simp only[List.length_append];omega,by simp only[List.length_append];omega,?_⟩,by simp only[List.length_append];omega,AC [(20,.nm 20),(23,.nm 23),(52,.nm 52)] rfl rfl ?_ ?_⟩
          ·simp only
           rw[List.drop_append_of_le_length (by omega),←hcl]
           congr 1
           simp only[List.length_append]
           omega
          ·first|exact eN|refine eM ?_
          ·first|exact eN|refine eM ?_
     ·have hdn:T.drop i=[]:=List.drop_eq_nil_of_le (by exact eV)
      rw[hdn,fK]at hcl
      subst hcl
      have hot:o.take n=o:=List.take_of_length_le (by omega)
      exact AH hc [.tmp 4] rfl (.inl rfl) (by simp) (by first|exact eR|refine Aw ?_;exact hot)
end
/- Functions of grammarlabref08, 06, 11: Step, find, Meet, Types. -/
section
attribute [local go_sem] Md ZW
def UM:Af:={ ins:=[Ds,T3,T3],pre:=fun(f,n,_,_)=>(0:Int)≤n∧n<(List.length f:Int),out:=fun(f,n,e,_)=>[.p T3 (Dv (List.getD (f:List AE) (Int.toNat n) (0,[])).2 e).1,.p .bool (Dv (List.getD (f:List AE) (Int.toNat n) (0,[])).2 e).2],lend:=true }
attribute [local go_sem] UM
theorem yU:Al Tryz.prog 106 UM:=by
 refine AU Tryz.func106 (by kernel_rfl) rfl Tryz.ntmps106 (by decide) (by kernel_rfl) (AG []) AJ ?_
 rintro w0 O0 ⟨f,n,e,u⟩ hc ⟨⟨hlf,hf⟩,-⟩ hn
 simp only[UM,AN]
 repeat'(first|exact trivial|refine eS rfl ?_|refine AB ?_|refine rX [0,1,2,3,6,7,8,9,19,28] hc ?_ ?_|refine rC ?_ ?_<;>intro AA<;>try(cases AA;done))
 ·exact hn
 ·have hL:List.length (List.getD (f:List AE) (Int.toNat n) (0,[])).2≤AP:=by
   have h1:Int.toNat n<List.length f:=(Int.toNat_lt hn.1).2 hn.2
   have:=hf _ (AD (f:List AE) (0,[]) h1)
   exact this.2.1
  simp only[AP]at hL
  generalize (List.getD (f:List AE) (Int.toNat n) (0,[])).2=l at *
  refine AL (ι:={k:Nat//k≤l.length∧Dv (l.drop k) e=Dv l e}) (fun k=>⟨[(2,.p T3 e),(8,.p CE l),(9,.p (.int .i64) (k.1:Int))],[]⟩) (fun k=>l.length-k.1) ⟨0,by simp⟩ (AC [] rfl rfl ?_ ?_) (fun k=>?_)
  ·first|exact eN|refine eM ?_
  ·first|exact eN|refine eM ?_
  ·obtain⟨k,hk,hg⟩:=k
   have hd:k<l.length→l.drop k=l.getD k (0,0) :: l.drop (k+1):=fun h=>by
    rw[List.drop_eq_getElem_cons h,List.getD_eq_getElem?_getD,List.getElem?_eq_getElem h];rfl
   have hgd:k<l.length→(if (l.getD k (0,0)).1=e then ((l.getD k (0,0)).2,true) else Dv (l.drop (k+1)) e)=Dv l e:=fun h=>by
    rw[hd h]at hg;exact hg
   repeat'(first|exact trivial|refine eS rfl ?_|refine AB ?_|refine rX [0,1,2,3,6,7,8,9,19,28] hc ?_ ?_|refine rC ?_ ?_<;>intro AA<;>try(cases AA;done))
   ·exact eV
   ·exact eV
   ·have hkl:k<l.length:=by exact eV
    have hg:=hgd hkl
    rw[if_pos AA]at hg
    exact AH hc [.tmp 6,.tmp 7] rfl (.inl rfl) (by simp) (by rw[←hg];first|exact eR|refine Aw ?_)
   ·exact eV
   ·have hkl:k<l.length:=by exact eV
    have hg:=hgd hkl
    rw[if_neg AA]at hg
    refine⟨⟨k+1,by omega,hg⟩,by simp only;omega,AC [] rfl rfl ?_ ?_⟩
    ·first|exact eN|refine eM ?_
    ·first|exact eN|refine eM ?_
   ·have hk:l.drop k=[]:=List.drop_eq_nil_of_le (by exact eV)
    rw[hk]at hg
    have hg:(0,false)=Dv l e:=hg
    exact AH hc [.tmp 6,.tmp 7] rfl (.inl rfl) (by simp) (by rw[←hg];first|exact eR|refine Aw ?_)
def Et (b:List Int):List Hb→Nat→Int×Bool
 | [],_=>(0,false)
 | t :: r,k=>if t.2.1=b then ((k:Int),true) else Et b r (k+1)
def YJ:Af:={ ins:=[GD,BA],pre:=fun _=>True,out:=fun(h,b,_)=>[.p T3 (Et b (h:AM).1 0).1,.p .bool (Et b (h:AM).1 0).2],lend:=true }
attribute [local go_sem] YJ
theorem yV:Al Tryz.prog 142 YJ:=by
 refine AU Tryz.func142 (by kernel_rfl) rfl Tryz.ntmps142 (by decide) (by kernel_rfl) (AG [(177,Md)]) (AF XW AJ) ?_
 rintro w0 O0 ⟨⟨l,hf⟩,b,u⟩ hc ⟨⟨⟨hl,-⟩,-⟩,-⟩ -
 simp only[AP]at hl
 simp only[YJ,AN]
 repeat'(first|exact trivial|refine eS rfl ?_|refine AB ?_|refine rX [0,1,2,4,5,6,11,21] hc ?_ ?_|refine rC ?_ ?_<;>intro AA<;>try(cases AA;done))
 refine AL (ι:={k:Nat//k≤List.length l∧Et b (List.drop k l) k=Et b l 0}) (fun k=>⟨[(1,.p BA b),(2,.bp 2 [] 0),(6,.p (.int .i64) (k.1:Int))],[(2,.box 29 true [.p YW l,.p ZP hf])]⟩) (fun k=>List.length l-k.1) ⟨0,by simp⟩ (AC [(2,.nm 2)] rfl rfl ?_ ?_) (fun k=>?_)
 ·first|exact eN|refine eM ?_
 ·first|exact eN|refine eM ?_
 ·obtain⟨k,hk,hg⟩:=k
  have hgd:k<List.length l→(if (List.getD l k Vz).2.1=b then ((k:Int),true) else Et b (List.drop (k+1) l) (k+1))=Et b l 0:=fun h=>by
   rw[List.drop_eq_getElem_cons h]at hg
   rw[List.getD_eq_getElem?_getD,List.getElem?_eq_getElem h];exact hg
  repeat'(first|exact trivial|refine eS rfl ?_|refine AB ?_|refine rX [0,1,2,4,5,6,11,21] hc ?_ ?_|refine rC ?_ ?_<;>intro AA<;>try(cases AA;done))
  ·exact eV
  ·have hkl:k<List.length l:=by exact eV
   have hg:=hgd hkl
   have AA:(List.getD l k Vz).2.1=b:=by simpa[HO] using AA
   rw[if_pos AA]at hg
   exact AH hc [.tmp 4,.tmp 5] rfl (.inl rfl) (by simp) (by rw[←hg];first|exact eR|refine Aw ?_)
  ·exact eV
  ·have hkl:k<List.length l:=by exact eV
   have hg:=hgd hkl
   have AA:¬(List.getD l k Vz).2.1=b:=by simpa[HO] using AA
   rw[if_neg AA]at hg
   refine⟨⟨k+1,by omega,hg⟩,by simp only;omega,AC [(2,.nm 2)] rfl rfl ?_ ?_⟩
   ·first|exact eN|refine eM ?_
   ·first|exact eN|refine eM ?_
  ·have hk:List.drop k l=[]:=List.drop_eq_nil_of_le (by exact eV)
   rw[hk]at hg
   have hg:(0,false)=Et b l 0:=hg
   exact AH hc [.tmp 4,.tmp 5] rfl (.inl rfl) (by simp) (by rw[←hg];first|exact eR|refine Aw ?_)
def CD (h:AM) (a b:Int):Int×Bool:=Et (Fb (BM h a) (BM h b)) h.1 0
def UN:Af:={ ins:=[GD,T3,T3],pre:=fun(h,a,b,_)=>((0:Int)≤a∧a<(List.length (h:AM).1:Int))∧((0:Int)≤b∧b<(List.length (h:AM).1:Int))∧(∀x∈(h:AM).1,x.2.1.length≤100000),out:=fun(h,a,b,_)=>[.p T3 (CD h a b).1,.p .bool (CD h a b).2],lend:=true }
attribute [local go_sem] UN
theorem yW:Al Tryz.prog 105 UN:=by
 refine AU Tryz.func105 (by kernel_rfl) rfl Tryz.ntmps105 (by decide) (by kernel_rfl) (AG [(142,YJ),(143,ZW)]) (AF yV (AF dM AJ)) ?_
 rintro w0 O0 ⟨⟨ht,hf⟩,a,b,u⟩ hc-⟨ha,hb,hx⟩
 simp only[UN,AN]
 have hcd:∀x:Int,0≤x∧x<(List.length ht:Int)→List.length (BM (ht,hf) x)≤100000:=fun x h1=>by
  have h2:Int.toNat x<List.length ht:=(Int.toNat_lt h1.1).2 h1.2
  exact hx _ (AD (ht:List Hb) Vz h2)
 repeat'(first|exact trivial|refine eS rfl ?_|refine AB ?_|refine rX [0,1,2,3,6,7] hc ?_ ?_|refine rC ?_ ?_<;>intro AA<;>try(cases AA;done))
 ·refine⟨ha,hb,?_⟩
  exact hcd a ha
 ·exact AH hc [.tmp 6,.tmp 7] rfl (.inl rfl) (by simp) (by unfold CD BM;first|exact eR|refine Aw ?_)
end
/- Functions of grammarlabref11: Types. -/
section
attribute [local go_sem] UN
def Hl (h:AM) (l:List AE) (c:List Int):Nat→Option (List Int)
 | 0=>some (List.replicate l.length 0)
 | i+1=>match Hl h l c i with
  | none=>none
  | some o=>if (CD h (o.getD (c.getD i 0).toNat 0) (l.getD i (0,[])).1).2=true then some (o.set (c.getD i 0).toNat (CD h (o.getD (c.getD i 0).toNat 0) (l.getD i (0,[])).1).1) else none
theorem sZ {h:AM} {l:List AE} {c:List Int} {i:Nat} (hn:Hl h l c i=none):∀ {j:Nat},i≤j→Hl h l c j=none:=by
 intro j hij
 induction j with
 | zero=>rw[show i=0 by omega]at hn;exact hn
 | succ j ih =>
  by_cases e:i=j+1
  ·rw[←e];exact hn
  ·simp only[Hl];rw[ih (by omega)]
def RS (c o:List Int) (i:Nat):List Int:=((List.range i).map fun(k:Nat)=>o.getD (c.getD k 0).toNat 0)++o.drop i
def Hh (h:AM) (l:List AE) (c:List Int):List Int×Bool:=match Hl h l c l.length with
 | none=>([],false)
 | some o=>((List.range l.length).map fun(k:Nat)=>o.getD (c.getD k 0).toNat 0,true)
def QD (n:Nat) (c:List Int):Prop:=c.length=n∧∀k:Nat,k<n→0≤c.getD k 0∧c.getD k 0≤(k:Int)∧c.getD (c.getD k 0).toNat 0=c.getD k 0
theorem yX {c o:List Int} {i:Nat} (h:i≤o.length):(RS c o i).length=o.length:=by
 unfold RS
 simp;omega
theorem yY {c o:List Int} {i:Nat} (hi:i<o.length) {x:Int} (hr:QD o.length c) (hx:x=c.getD i 0):(RS c o i).getD x.toNat 0=o.getD x.toNat 0:=by
 obtain⟨h1,h2,h3⟩:=hr.2 i hi
 rw[←hx]at h1 h2 h3
 unfold RS
 by_cases e:x.toNat<i
 ·rw[List.getD_eq_getElem?_getD,List.getElem?_append_left (by simpa using e),List.getElem?_map,List.getElem?_range e]
  simp only[Option.map_some,Option.getD_some]
  rw[h3]
 ·have e:x.toNat=i:=by omega
  rw[e,List.getD_eq_getElem?_getD,List.getElem?_append_right (by simp)]
  simp only[List.length_map,List.length_range,Nat.sub_self,List.getElem?_drop,Nat.add_zero]
  rw[List.getD_eq_getElem?_getD]
theorem yZ {c o:List Int} {i:Nat} (hi:i<o.length):(RS c o i).set i (o.getD (c.getD i 0).toNat 0)=RS c o (i+1):=by
 unfold RS
 rw[List.set_append_right _ _ (by simp)]
 simp only[List.length_map,List.length_range,Nat.sub_self]
 rw[List.drop_eq_getElem_cons hi,List.set_cons_zero,List.range_succ,List.map_append,List.append_assoc];rfl
theorem s4 (c o:List Int):RS c o o.length=(List.range o.length).map fun(k:Nat)=>o.getD (c.getD k 0).toNat 0:=by
 unfold RS
 simp
theorem s5 (c o:List Int):RS c o 0=o:=by simp[RS]
theorem bL (b:List Int):∀(l:List Hb) (k:Nat),0≤(Et b l k).1∧((Et b l k).2=true→(k:Int)≤(Et b l k).1∧(Et b l k).1<(k:Int)+l.length)
 | [],k=>⟨by simp[Et],by simp[Et]⟩
 | t :: r,k=>by
  unfold Et
  split
  ·exact⟨by simp only;omega,fun _=>⟨by simp only;omega,by simp only[List.length_cons];omega⟩⟩
  ·obtain⟨h1,h2⟩:=bL b r (k+1)
   refine⟨h1,fun h=>?_⟩
   obtain⟨h3,h4⟩:=h2 h
   simp only[List.length_cons]
   omega
theorem s6 {h:AM} {a b:Int} (hm:(CD h a b).2=true):0≤(CD h a b).1∧(CD h a b).1<(h.1.length:Int):=by
 obtain⟨h1,h2⟩:=bL (Fb (BM h a) (BM h b)) h.1 0
 have h2:=h2 hm
 unfold CD
 exact⟨h1,by omega⟩
def TyR (h:AM) (n:Nat) (o:List Int):Prop:=o.length=n∧∀k,k<n→0≤o.getD k 0∧o.getD k 0<(h.1.length:Int)
theorem QE (l:List Int) (v:Int) (i j:Nat) (hi:i<l.length):(l.set i v).getD j 0=if j=i then v else l.getD j 0:=by
 simp only[List.getD_eq_getElem?_getD,List.getElem?_set]
 by_cases e:i=j
 ·subst e;simp[hi]
 ·rw[if_neg e,if_neg (fun h=>e h.symm)]
theorem O3 {h:AM} (h0:0<h.1.length) {l:List AE} {c:List Int} (hc:QD l.length c):∀ {i:Nat} {o:List Int},i≤l.length→Hl h l c i=some o→TyR h l.length o
 | 0,o,_,ho=>by
  simp only[Hl]at ho
  cases ho
  refine⟨by simp,fun k hk=>?_⟩
  rw[List.getD_eq_getElem?_getD,List.getElem?_replicate,if_pos hk]
  exact⟨Int.le_refl _,by simp only[Option.getD_some];omega⟩
 | i+1,o,hi,ho=>by
  simp only[Hl]at ho
  cases hp:Hl h l c i with
  | none=>rw[hp]at ho;cases ho
  | some p =>
   rw[hp]at ho
   simp only at ho
   split at ho
   ·rename_i hm
    cases ho
    obtain⟨h1,h2⟩:=O3 h0 hc (by omega) hp
    obtain⟨c1,c2,_⟩:=hc.2 i (by omega)
    refine⟨by rw[List.length_set];exact h1,fun k hk=>?_⟩
    rw[QE _ _ _ _ (by omega)]
    split
    ·exact s6 hm
    ·exact h2 k hk
   ·cases ho
def UO:Af:={ ins:=[GD,Fl,Ek],pre:=fun(h,l,c,_)=>QD (List.length l) c∧D7 h l∧0<List.length (h:AM).1∧List.length l≤100000∧(∀x∈(h:AM).1,x.2.1.length≤100000),out:=fun(h,l,c,_)=>[.p Ek (Hh h l c).1,.p .bool (Hh h l c).2] }
attribute [local go_sem] UO
theorem y3:Al Tryz.prog 67 UO:=by
 refine AU Tryz.func67 (by kernel_rfl) rfl Tryz.ntmps67 (by decide) (by kernel_rfl) (AG [(105,UN)]) (AF yW AJ) ?_
 rintro w0 O0 ⟨⟨ht,hf⟩,l,c,u⟩ hc-⟨hr,hty,h0,hl,hx⟩
 simp only[UO,AN]
 have hcl:=hr.1
 repeat'(first|exact trivial|refine eS rfl ?_|refine AB ?_|refine rX [0,1,2,3,6,7,8,9,10,11,12,19,40,51] hc ?_ ?_|refine rC ?_ ?_<;>intro AA<;>try(cases AA;done))
 ·simp only[AP];exact eV
 ·refine AL (ι:={s:Nat×List Int//s.1≤List.length l∧Hl (ht,hf) l c s.1=some s.2}) (fun i=>⟨[(1,.p Fl l),(2,.p Ek c),(3,.bp 3 [] 0),(6,.raw (.slice none 0 0)),(7,.p .bool false),(8,.sr 15 T3 0 (List.length l)),(9,.p (.int .i64) (i.1.1:Int))],[(3,.box 29 true [.p YW ht,.p ZP hf]),(15,.arr 3 T3 i.1.2)]⟩) (fun i=>List.length l-i.1.1) ⟨(0,List.replicate (List.length l) 0),by simp,rfl⟩ (AC [(3,.nm 3),(15,.nm 15)] rfl rfl ?_ ?_) (fun i=>?_)
  ·first|exact eN|refine eM ?_
  ·first|exact eN|refine eM ?_
  ·obtain⟨⟨i,o⟩,hi,ho⟩:=i
   simp only at hi ho
   obtain⟨hol,hor⟩:=O3 h0 hr hi ho
   simp only
   have hci:=hr.2 i
   have hoc:=hor (c.getD i 0).toNat
   have htl:=fun h:i<List.length l=>hty _ (AD (l:List AE) (0,[]) h)
   have hnx:Hl (ht,hf) l c (i+1)=if (CD (ht,hf) (o.getD (c.getD i 0).toNat 0) (l.getD i (0,[])).1).2=true then some (o.set (c.getD i 0).toNat (CD (ht,hf) (o.getD (c.getD i 0).toNat 0) (l.getD i (0,[])).1).1) else none:=by
    simp only[Hl,ho]
   have htyp:Hh (ht,hf) l c=match Hl (ht,hf) l c (List.length l) with
    | none=>([],false)
    | some o=>((List.range (List.length l)).map fun(k:Nat)=>o.getD (c.getD k 0).toNat 0,true):=rfl
   repeat'(first|exact trivial|refine eS rfl ?_|refine AB ?_|refine rX [0,1,2,3,6,7,8,9,10,11,12,19,40,51] hc ?_ ?_|refine rC ?_ ?_<;>intro AA<;>try(cases AA;done))
   ·have hil:i<List.length l:=by exact eV
    obtain⟨c1,c2,c3⟩:=hci hil
    exact⟨by rw[hcl];exact AA,⟨c1,by exact eV⟩,AA,hoc (by omega),htl hil,hx⟩
   ·have hil:i<List.length l:=by exact eV
    rw[if_neg (by rw[AA];simp)]at hnx
    have:=sZ hnx (j:=List.length l) (by omega)
    rw[this]at htyp
    exact AH hc [.tmp 6,.tmp 7] rfl (.inl rfl) (by simp) (by rw[htyp];first|exact eR|refine Aw ?_)
   ·have hil:i<List.length l:=by exact eV
    obtain⟨c1,c2,c3⟩:=hci hil
    exact⟨by rw[hcl];assumption,c1,by exact eV⟩
   ·exact eV
   ·have hil:i<List.length l:=by exact eV
    rw[if_pos AA]at hnx
    refine⟨⟨(i+1,_),by simp only;omega,hnx⟩,by simp only;omega,AC [(3,.nm 3),(15,.nm 15)] rfl rfl ?_ ?_⟩
    ·first|exact eN|refine eM ?_
    ·first|exact eN|refine eM ?_
   ·have hil:i=List.length l:=by exact eV
    rw[←hil,ho]at htyp
    simp only at htyp
    have hrc:QD o.length c:=by rw[hol];exact hr
    rw[←hil]at hol
    refine AL (ι:={j:Nat//j≤o.length}) (fun j=>⟨[(1,.p Fl l),(2,.p Ek c),(8,.sr 15 T3 0 (List.length l)),(12,.p (.int .i64) (j.1:Int))],[(15,.arr 3 T3 (RS c o j.1))]⟩) (fun j=>o.length-j.1) ⟨0,by omega⟩ (AC [(15,.nm 15)] rfl rfl ?_ ?_) (fun j=>?_)
    ·first|exact eN|refine eM ?_
     rw[s5]
    ·first|exact eN|refine eM ?_
    ·obtain⟨j,hj⟩:=j
     have hjl:=yX (c:=c) hj
     have hjg:=fun h:j<o.length=>yY (x:=c.getD j 0) h hrc rfl
     have hjs:=fun h:j<o.length=>yZ (c:=c) h
     have hcj:=hrc.2 j
     simp only
     repeat'(first|exact trivial|refine eS rfl ?_|refine AB ?_|refine rX [0,1,2,3,6,7,8,9,10,11,12,19,40,51] hc ?_ ?_|refine rC ?_ ?_<;>intro AA<;>try(cases AA;done))
     ·have hjl2:j<o.length:=by rw[hol,hil];exact eV
      obtain⟨c1,c2,c3⟩:=hcj hjl2
      exact⟨by rw[hcl];exact AA,⟨c1,by exact eV⟩,AA⟩
     ·exact eV
     ·have hjl2:j<o.length:=by rw[hol,hil];exact eV
      refine⟨⟨j+1,by omega⟩,by simp only;omega,AC [(15,.nm 15)] rfl rfl ?_ ?_⟩
      ·simp only
       rw[←hjs hjl2,←hjg hjl2]
       first|exact eN|refine eM ?_
      ·first|exact eN|refine eM ?_
     ·have hjl2:j=o.length:=by rw[hol,hil]at hj ⊢;exact eV
      subst hjl2
      rw[s4,hol]
      have hlt:((List.range i).map fun(k:Nat)=>o.getD (c.getD k 0).toNat 0).take (List.length l)=(List.range i).map fun(k:Nat)=>o.getD (c.getD k 0).toNat 0:=List.take_of_length_le (by simp;omega)
      exact AH hc [.tmp 6,.tmp 7] rfl (.inl rfl) (by simp) (by rw[htyp];first|exact eR|refine Aw ?_;rw[hil]at hlt ⊢;exact hlt)
end
/- Functions of grammarlabref11: Quotient. -/
section
attribute [local go_sem] UM WF
attribute [local go_sem] VZ qN ne_eq not_false_eq_true
def QF (cl:List Int) (L:List (Int×Int)) (x:Int×Int):List (Int×Int):=if (Dv L x.1).2=true then L else L++[(x.1,cl.getD x.2.toNat 0)]
def Hi (cl:List Int) (L l:List (Int×Int)):List (Int×Int):=l.foldl (QF cl) L
def EC (cl:List Int) (g:List AE) (i:Nat) (l:List (Int×Int)):List AE:=g.set (cl.getD i 0).toNat ((g.getD (cl.getD i 0).toNat (0,[])).1,Hi cl (g.getD (cl.getD i 0).toNat (0,[])).2 l)
def Cy (l:List AE) (cl types:List Int):Nat→List AE
 | 0=>(List.range l.length).map fun(k:Nat)=>(types.getD k 0,[])
 | i+1=>EC cl (Cy l cl types i) i (l.getD i (0,[])).2
def WY (l:List AE) (cl types:List Int) (root:Int):List AE:=Gl (Cy l cl types l.length) (cl.getD root.toNat 0)
def bM:Af:={ ins:=[Fl,Ek,Ek,T3],pre:=fun(l,c,t,r,_)=>AY l∧List.length c=List.length l∧List.length t=List.length l∧(∀x∈(c:List Int),0≤x∧x<(List.length l:Int))∧((0:Int)≤r∧r<(List.length l:Int))∧List.length l*1000≤100000∧(∀x∈(l:List AE),x.2.length≤1000),out:=fun(l,c,t,r,_)=>[.p Ds (WY l c t r)] }
attribute [local go_sem] bM
def UP (types:List Int) (i:Nat):List AE:=(List.range i).map fun(k:Nat)=>(types.getD k 0,[])
theorem QG (types:List Int) (i:Nat):(UP types i).length=i:=by simp[UP]
theorem fM (types:List Int) (i:Nat):UP types (i+1)=UP types i++[(types.getD i 0,[])]:=by simp[UP,List.range_succ]
theorem fO (l:List AE) (c t:List Int):UP t l.length=Cy l c t 0:=rfl
theorem WZ (c:List Int) (g:List AE) (i:Nat) (l:List (Int×Int)):(EC c g i l).length=g.length:=by simp[EC]
theorem QH (l:List AE) (v:AE) (i j:Nat) (hi:i<l.length):(l.set i v).getD j (0,[])=if j=i then v else l.getD j (0,[]):=by
 simp only[List.getD_eq_getElem?_getD,List.getElem?_set]
 by_cases e:i=j
 ·subst e;simp[hi]
 ·rw[if_neg e,if_neg (fun h=>e h.symm)]
theorem s7 {c:List Int} {g:List AE} {i:Nat} {l:List (Int×Int)} (hi:(c.getD i 0).toNat<g.length):(EC c g i l).getD (c.getD i 0).toNat (0,[])=((g.getD (c.getD i 0).toNat (0,[])).1,Hi c (g.getD (c.getD i 0).toNat (0,[])).2 l):=by
 unfold EC
 rw[QH _ _ _ _ hi,if_pos rfl]
theorem s8 {c:List Int} {g:List AE} {i:Nat} (hi:(c.getD i 0).toNat<g.length):EC c g i []=g:=by
 unfold EC Hi
 simp only[List.foldl_nil]
 apply List.ext_getElem?
 intro j
 rw[List.getElem?_set]
 split
 ·rename_i e
  subst e
  rw[List.getD_eq_getElem?_getD,List.getElem?_eq_getElem hi]
  simp[hi]
 ·rfl
theorem fP {c:List Int} {g:List AE} {i:Nat} {l:List (Int×Int)} {x:Int×Int} (hi:(c.getD i 0).toNat<g.length) :
  ((Dv ((EC c g i l).getD (c.getD i 0).toNat (0,[])).2 x.1).2=true→EC c g i (l++[x])=EC c g i l) ∧
  ((Dv ((EC c g i l).getD (c.getD i 0).toNat (0,[])).2 x.1).2=false→EC c g i (l++[x])=(EC c g i l).set (c.getD i 0).toNat (((EC c g i l).getD (c.getD i 0).toNat (0,[])).1,((EC c g i l).getD (c.getD i 0).toNat (0,[])).2++[(x.1,c.getD x.2.toNat 0)])):=by
 rw[s7 hi]
 unfold EC Hi
 rw[List.foldl_append]
 simp only[List.foldl_cons,List.foldl_nil]
 refine⟨fun h=>?_,fun h=>?_⟩
 ·unfold QF at h ⊢
  rw[if_pos h]
 ·rw[List.set_set]
  unfold QF at h ⊢
  rw[if_neg (by rw[h];simp)]
def YK (n m:Nat) (g:List AE):Prop:=g.length=n∧∀k,(g.getD k (0,[])).2.length≤m∧∀a∈(g.getD k (0,[])).2,0≤a.2∧a.2<(n:Int)
theorem bN {c:List Int} {n:Nat} (hcl:c.length=n) (hcr:∀x∈c,0≤x∧x<(n:Int)):∀(l:List (Int×Int)) {L:List (Int×Int)} {m:Nat},L.length≤m→(∀a∈L,0≤a.2∧a.2<(n:Int))→(∀a∈l,0≤a.2∧a.2<(n:Int))→(Hi c L l).length≤m+l.length∧∀a∈Hi c L l,0≤a.2∧a.2<(n:Int)
 | [],L,m,h1,h2,_=>⟨h1,h2⟩
 | x :: l,L,m,h1,h2,h3=>by
  have hx:=h3 x (by simp)
  have e:Hi c L (x :: l)=Hi c (QF c L x) l:=rfl
  rw[e]
  have h4:(QF c L x).length≤m+1∧∀a∈QF c L x,0≤a.2∧a.2<(n:Int):=by
   unfold QF
   split
   ·exact⟨by omega,h2⟩
   ·refine⟨by simp;omega,fun a ha=>?_⟩
    rcases List.mem_append.1 ha with ha|ha
    ·exact h2 a ha
    ·have:a=(x.1,c.getD x.2.toNat 0):=by simpa using ha
     subst this
     exact hcr _ (AD c 0 (by omega))
  have:=bN hcl hcr l h4.1 h4.2 fun a ha=>h3 a (by simp[ha])
  simp only[List.length_cons]
  exact⟨by omega,this.2⟩
theorem bO {c:List Int} {n:Nat} (hcl:c.length=n) (hcr:∀x∈c,0≤x∧x<(n:Int)) {g:List AE} {m:Nat} (hg:YK n m g) {i:Nat} (hi:i<n) {l:List (Int×Int)} (hl:∀a∈l,0≤a.2∧a.2<(n:Int)):YK n (m+l.length) (EC c g i l):=by
 have hci:=hcr _ (AD c 0 (k:=i) (by omega))
 have hlt:(c.getD i 0).toNat<g.length:=by rw[hg.1];omega
 refine⟨by rw[WZ];exact hg.1,fun k=>?_⟩
 unfold EC
 rw[QH _ _ _ _ hlt]
 split
 ·exact bN hcl hcr l (hg.2 _).1 (hg.2 _).2 hl
 ·exact⟨Nat.le_trans (hg.2 k).1 (by omega),(hg.2 k).2⟩
theorem bP {l:List AE} {c t:List Int} (hl:AY l) (hla:∀x∈l,x.2.length≤1000) (hcl:c.length=l.length) (hcr:∀x∈c,0≤x∧x<(l.length:Int)):∀ {i:Nat},i≤l.length→YK l.length (i*1000) (Cy l c t i)
 | 0,_=>by
  refine⟨by simp[Cy],fun k=>?_⟩
  unfold Cy
  rw[List.getD_eq_getElem?_getD,List.getElem?_map]
  cases h:(List.range l.length)[k]? with
  | none=>simp
  | some j=>simp
 | i+1,hi=>by
  have hm:=AD l (0,[]) (k:=i) (by omega)
  have:=bO hcl hcr (bP (t:=t) hl hla hcl hcr (i:=i) (by omega)) (i:=i) (by omega) (l:=(l.getD i (0,[])).2) (fun a ha=>(hl.2 _ hm).2 a ha)
  refine⟨this.1,fun k=>⟨Nat.le_trans (this.2 k).1 ?_,(this.2 k).2⟩⟩
  have:=hla _ hm
  omega
theorem s9 {n m:Nat} {g:List AE} (h:YK n m g) (hn:n≤100000) (hm:m≤100000):AY g:=by
 refine⟨by rw[h.1];exact hn,fun x hx=>?_⟩
 obtain⟨k,hk,rfl⟩:=List.mem_iff_getElem.1 hx
 have:=h.2 k
 rw[List.getD_eq_getElem?_getD,List.getElem?_eq_getElem hk]at this
 refine⟨Nat.le_trans this.1 hm,fun a ha=>?_⟩
 rw[h.1]
 exact this.2 a ha
theorem A2s:Al Tryz.prog 68 bM:=by
 refine AU Tryz.func68 (by kernel_rfl) rfl Tryz.ntmps68 (by decide) (by kernel_rfl) (AG [(106,UM),(107,WF)] [] [(30,108)]) (AF yU (AF oI AJ)) ?_
 rintro w0 O0 ⟨l,c,t,r,u⟩ hc-⟨hg,hcl,htl,hcr,hr,hll,hla⟩
 simp only[bM,AN]
 repeat'(first|exact trivial|refine eS rfl ?_|refine AB ?_|refine rX [0,1,2,3,8,9,10,11,12,13,14,16,20,36,50,70] hc ?_ ?_|refine rC ?_ ?_<;>intro AA<;>try(cases AA;done))
 refine AL (ι:={i:Nat//i≤List.length l}) (fun i=>⟨[(0,.p Fl l),(1,.p Ek c),(2,.p Ek t),(3,.p T3 r),(8,.bp 8 [] 0),(9,.bp 9 [] 0),(10,.p (.int .i64) (i.1:Int))],[(8,.box 25 true [.raw (.slice none 0 0)]),(9,.box 25 true [.sr 31 J9 0 i.1]),(31,.nest 88 108 T3 Aq (UP t i.1) none)]⟩) (fun i=>List.length l-i.1) ⟨0,by omega⟩ (AC [(8,.nm 8),(9,.nm 9),(31,.nil)] rfl rfl ?_ ?_) (fun i=>?_)
 ·first|exact eN|refine eM ?_
  rfl
 ·first|exact eN|refine eM ?_
 ·obtain⟨i,hi⟩:=i
  repeat'(first|exact trivial|refine eS rfl ?_|refine AB ?_|refine rX [0,1,2,3,8,9,10,11,12,13,14,16,20,36,50,70] hc ?_ ?_|refine rC ?_ ?_<;>intro AA<;>try(cases AA;done))
  ·refine⟨by rw[htl];exact AA,(QG t i).symm,?_⟩
   rw[QG]
   simp only[AP]
   dsimp only[Ty.den]at *
   omega
  ·exact eV
  ·have hil:i<List.length l:=by exact eV
   refine⟨⟨i+1,by omega⟩,by simp only;omega,AC [(8,.nm 8),(9,.nm 9),(31,.nm 31)] rfl rfl ?_ ?_⟩
   ·simp only
    rw[fM]
    first|exact eN|refine eM ?_
    rw[QG]
   ·first|exact eN|refine eM ?_
  ·have hil:i=List.length l:=by exact eV
   subst hil
   rw[fO l c t]
   refine AL (ι:={i:Nat//i≤List.length l}) (fun i=>⟨[(0,.p Fl l),(1,.p Ek c),(3,.p T3 r),(8,.bp 8 [] 0),(9,.bp 9 [] 0),(11,.p (.int .i64) (i.1:Int))],[(8,.box 25 true [.raw (.slice none 0 0)]),(9,.box 25 true [.sr 31 J9 0 (List.length l)]),(31,.nest 88 108 T3 Aq (Cy l c t i.1) none)]⟩) (fun i=>List.length l-i.1) ⟨0,by omega⟩ (AC [(8,.nm 8),(9,.nm 9),(31,.nm 31)] rfl rfl ?_ ?_) (fun i=>?_)
   ·first|exact eN|refine eM ?_
   ·first|exact eN|refine eM ?_
   ·obtain⟨i,hi⟩:=i
    have hRo:=bP (t:=t) hg hla hcl hcr hi
    simp only
    repeat'(first|exact trivial|refine eS rfl ?_|refine AB ?_|refine rX [0,1,2,3,8,9,10,11,12,13,14,16,20,36,50,70] hc ?_ ?_|refine rC ?_ ?_<;>intro AA<;>try(cases AA;done))
    ·rw[hcl];exact AA
    ·have hil:i<List.length l:=by exact eV
     have hci:=hcr _ (AD (c:List Int) 0 (k:=i) (by omega))
     have hm:=AD (l:List AE) (0,[]) hil
     have hla1:=hla _ hm
     have hlr:=(hg.2 _ hm).2
     have hrs:Cy l c t (i+1)=EC c (Cy l c t i) i (List.getD l i (0,[])).2:=rfl
     have hlt:(List.getD c i 0).toNat<(Cy l c t i).length:=by rw[hRo.1];exact eV
     generalize Cy l c t i=g at *
     have hGk:=fun k=>bO hcl hcr hRo hil (l:=(List.getD l i (0,[])).2.take k) (fun a ha=>hlr a (List.mem_of_mem_take ha))
     refine AL (ι:={k:Nat//k≤(List.getD l i (0,[])).2.length}) (fun k=>⟨[(0,.p Fl l),(1,.p Ek c),(3,.p T3 r),(8,.bp 8 [] 0),(9,.bp 9 [] 0),(11,.p (.int .i64) (i:Int)),(12,.p T3 (List.getD c i 0)),(13,.p (.int .i64) (k.1:Int))],[(8,.box 25 true [.raw (.slice none 0 0)]),(9,.box 25 true [.sr 31 J9 0 (List.length l)]),(31,.nest 88 108 T3 Aq (EC c g i ((List.getD l i (0,[])).2.take k.1)) none)]⟩) (fun k=>(List.getD l i (0,[])).2.length-k.1) ⟨0,by omega⟩ (AC [(8,.nm 8),(9,.nm 9),(31,.nm 31)] rfl rfl ?_ ?_) (fun k=>?_)
     ·first|exact eN|refine eM ?_
      exact(s8 hlt).symm
     ·first|exact eN|refine eM ?_
     ·obtain⟨k,hk⟩:=k
      have hGk:=hGk k
      have hst:=fun(x:Int×Int)=>fP (l:=(List.getD l i (0,[])).2.take k) (x:=x) hlt
      have hsn:=fun(h:k<(List.getD l i (0,[])).2.length)=>Ac (List.getD l i (0,[])).2 (0,0) h
      simp only
      generalize hG:EC c g i ((List.getD l i (0,[])).2.take k)=G at *
      have htk:List.take (List.length l) G=G:=List.take_of_length_le (by rw[hGk.1];exact Nat.le_refl _)
      have hlG:=hGk.1
      repeat'(first|exact trivial|refine eS rfl ?_|refine AB ?_|refine rX [0,1,2,3,8,9,10,11,12,13,14,16,20,36,50,70] hc ?_ ?_|refine rC ?_ ?_<;>intro AA<;>try(cases AA;done))
      ·exact AA
      ·exact⟨by assumption,AA⟩
      ·rw[htk,hlG];exact hci
      ·rw[htk]at AA
       refine IQ drawsAny hc 19 [([3,4,5,6,7,8,9,10,11,12,13,14,15,16,17],18)] [0,1,2] (by kernel_rfl) (YV ?_ ?_)
       ·refine⟨hci,?_⟩
        rw[hcl]
        exact hlr _ (AD (List.getD l i (0,[])).2 (0,0) (by exact eV))
       ·refine mxN hc 31 ?_ ?_
        ·have:=(hGk.2 (Int.toNat (List.getD c i 0))).1
         have h5:((List.getD l i (0,[])).2.take k).length≤1000:=Nat.le_trans (List.length_take_le _ _) (Nat.le_trans hk hla1)
         simp only[AP]
         dsimp only[Ty.den]at *
         omega
        ·refine zO [0,1,2,3,8,9,10,11,12,13,14,16,20,36,50,70] hc ?_ ?_ ?_
         ·trivial
         ·exact hci
         ·repeat'(first|exact trivial|refine eS rfl ?_|refine AB ?_|refine rX [0,1,2,3,8,9,10,11,12,13,14,16,20,36,50,70] hc ?_ ?_|refine rC ?_ ?_<;>intro AA<;>try(cases AA;done))
          ·exact eV
          ·have hkl:k<(List.getD l i (0,[])).2.length:=by exact eV
           have hst:=(hst (List.getD (List.getD l i (0,[])).2 k (0,0))).2 AA
           refine⟨⟨k+1,by omega⟩,by simp only;omega,AC [(8,.nm 8),(9,.nm 9),(31,.nm 31)] rfl rfl ?_ ?_⟩
           ·simp only
            rw[hsn hkl,hst]
            first|exact eN|refine eM ?_
           ·first|exact eN|refine eM ?_
      ·exact eV
      ·rw[htk]at AA
       have hkl:k<(List.getD l i (0,[])).2.length:=by exact eV
       have hst:=(hst (List.getD (List.getD l i (0,[])).2 k (0,0))).1 AA
       refine⟨⟨k+1,by omega⟩,by simp only;omega,AC [(8,.nm 8),(9,.nm 9),(31,.nm 31)] rfl rfl ?_ ?_⟩
       ·simp only
        rw[hsn hkl,hst]
        first|exact eN|refine eM ?_
       ·first|exact eN|refine eM ?_
      ·exact eV
      ·have hkl:(List.getD l i (0,[])).2.take k=(List.getD l i (0,[])).2:=List.take_of_length_le (by exact eV)
       rw[hkl]at hG
       rw[←hrs]at hG
       refine⟨⟨i+1,by omega⟩,by simp only;omega,AC [(8,.nm 8),(9,.nm 9),(31,.nm 31)] rfl rfl ?_ ?_⟩
       ·simp only
        rw[hG]
        first|exact eN|refine eM ?_
       ·first|exact eN|refine eM ?_
    ·have hil:i=List.length l:=by exact eV
     subst hil
     have hq:WY l c t r=Gl (Cy l c t (List.length l)) (c.getD r.toNat 0):=rfl
     have hgd:=s9 hRo (by omega) (by omega)
     have hlr:=hRo.1
     have htk:List.take (List.length l) (Cy l c t (List.length l))=Cy l c t (List.length l):=List.take_of_length_le (by rw[hlr];exact Nat.le_refl _)
     generalize Cy l c t (List.length l)=g at *
     refine Gr [31] ?_
     repeat'(first|exact trivial|refine eS rfl ?_|refine AB ?_|refine rX [0,1,2,3,8,9,10,11,12,13,14,16,20,36,50,70] hc ?_ ?_|refine rC ?_ ?_<;>intro AA<;>try(cases AA;done))
     ·rw[htk,hlr,hcl]
      exact⟨hr,hgd,hcr _ (AD (c:List Int) 0 (by exact eV))⟩
     ·rw[htk,←hq]
      exact AH hc [.cell 8 25] rfl (.inl rfl) (by simp) (by first|exact eR|refine Aw ?_)
end
/- Plain: grammarlabref11.Close finds the least closed relation. -/
section
inductive EQ (n:Nat) (o:List Int) (W:List (Int×Int)):Int→Int→Prop
 | cls {x y:Int} (x0:0≤x) (x1:x<(n:Int)) (y0:0≤y) (y1:y<(n:Int)) (h:o.getD x.toNat 0=o.getD y.toNat 0):EQ n o W x y
 | wt {x y:Int} (h:(x,y)∈W):EQ n o W x y
 | symm {x y:Int} (h:EQ n o W x y):EQ n o W y x
 | trans {x y z:Int} (h:EQ n o W x y) (g:EQ n o W y z):EQ n o W x z
theorem EQ.mono {n:Nat} {o o':List Int} {W W':List (Int×Int)} (h1:∀x y,0≤x→x<(n:Int)→0≤y→y<(n:Int)→o.getD x.toNat 0=o.getD y.toNat 0→EQ n o' W' x y) (h2:∀x y,(x,y)∈W→EQ n o' W' x y) {x y:Int} (h:EQ n o W x y):EQ n o' W' x y:=by
 induction h with
 | cls x0 x1 y0 y1 h=>exact h1 _ _ x0 x1 y0 y1 h
 | wt h=>exact h2 _ _ h
 | symm _ ih=>exact .symm ih
 | trans _ _ ih1 ih2=>exact .trans ih1 ih2
theorem EQ.nil {n:Nat} {o:List Int} {x y:Int} (h:EQ n o [] x y):o.getD x.toNat 0=o.getD y.toNat 0:=by
 induction h with
 | cls _ _ _ _ h=>exact h
 | wt h=>cases h
 | symm _ ih=>exact ih.symm
 | trans _ _ ih1 ih2=>exact ih1.trans ih2
structure JC (h:AM) (N:List AE) (P:List (Int×Int)) (o:List Int) (ar:List (List (Int×Int))) (W:List (Int×Int)):Prop where
 ci:CI N.length o ar W
 nd:∀k,((ar.getD k []).map (·.1)).Nodup
 sp:∀q∈P,EQ N.length o W q.1 q.2
 sa:∀x,0≤x→x<(N.length:Int)→∀a∈AR N x,∃t,(a.1,t)∈ar.getD (o.getD x.toNat 0).toNat []∧EQ N.length o W a.2 t
 co:∀X v,X3 h N P X v→(∀x,0≤x→x<(N.length:Int)→v x=v (o.getD x.toNat 0))∧(∀w∈W,v w.1=v w.2)∧(∀r,0≤r→r<(N.length:Int)→o.getD r.toNat 0=r→∀a∈ar.getD r.toNat [],DI (AR X (v r)) a.1=v a.2)
section
variable {h:AM} {N:List AE} {P:List (Int×Int)} {o:List Int} {ar:List (List (Int×Int))} {W:List (Int×Int)} {w:Int×Int}
theorem YL (o:List Int) (x y:Int):(Du o x y=o.getD x.toNat 0∧CJ o x y=o.getD y.toNat 0)∨(Du o x y=o.getD y.toNat 0∧CJ o x y=o.getD x.toNat 0):=by
 unfold Du CJ
 by_cases e1:o.getD y.toNat 0<o.getD x.toNat 0
 ·rw[if_pos e1,if_neg (by omega)];exact .inr ⟨rfl,rfl⟩
 ·rw[if_neg e1]
  by_cases e2:o.getD x.toNat 0<o.getD y.toNat 0
  ·rw[if_pos e2];exact .inl ⟨rfl,rfl⟩
  ·rw[if_neg e2];exact .inl ⟨rfl,by omega⟩
theorem A2t (hj:JC h N P o ar (w :: W)) (he:Du o w.1 w.2=CJ o w.1 w.2):JC h N P o ar W:=by
 have hw:=hj.ci.wr w (by simp)
 have hee:o.getD w.1.toNat 0=o.getD w.2.toNat 0:=by
  rcases YL o w.1 w.2 with ⟨h1,h2⟩|⟨h1,h2⟩
  ·rw[←h1,←h2,he]
  ·rw[←h1,←h2,he]
 have hm:∀ {x y},EQ N.length o (w :: W) x y→EQ N.length o W x y:=fun {x y} g=>g.mono (fun x y x0 x1 y0 y1 e=>.cls x0 x1 y0 y1 e) fun x y hxy=>by
  rcases List.mem_cons.1 hxy with e|e
  ·subst e;exact .cls hw.1.1 hw.1.2 hw.2.1 hw.2.2 hee
  ·exact .wt e
 refine⟨o9 hj.ci,hj.nd,fun q hq=>hm (hj.sp q hq),fun x x0 x1 a ha=>?_,fun X v hv=>?_⟩
 ·obtain⟨t,h1,h2⟩:=hj.sa x x0 x1 a ha
  exact⟨t,h1,hm h2⟩
 ·obtain⟨h1,h2,h3⟩:=hj.co X v hv
  exact⟨h1,fun u hu=>h2 u (List.mem_cons_of_mem _ hu),h3⟩
theorem A2u {l g:List (Int×Int)} (hl:(l.map (·.1)).Nodup) (hg:(g.map (·.1)).Nodup):((FJ l g).map (·.1)).Nodup:=by
 unfold FJ
 rw[List.map_append,List.nodup_append]
 refine⟨hl,(hg.sublist ((List.filter_sublist).map _)),fun x hx y hy e=>?_⟩
 obtain⟨a,ha,rfl⟩:=List.mem_map.1 hx
 obtain⟨b,hb,rfl⟩:=List.mem_map.1 hy
 have hb:=(List.mem_filter.1 hb).2
 rw[bE a ha e]at hb
 cases hb
theorem y4 (hj:JC h N P o ar (w :: W)) (hne:Du o w.1 w.2≠CJ o w.1 w.2) :
  JC h N P (B2 o w.1 w.2) (ar.set (Du o w.1 w.2).toNat (FJ (ar.getD (Du o w.1 w.2).toNat []) (ar.getD (CJ o w.1 w.2).toNat []))) (W++D9 (ar.getD (Du o w.1 w.2).toNat []) (ar.getD (CJ o w.1 w.2).toNat [])):=by
 have hw:=hj.ci.wr w (by simp)
 have hLH:=yM hj.ci hw.1.1 hw.1.2 hw.2.1 hw.2.2 hne
 have hci:=bH (o9 hj.ci) hLH
 have hg:=fun(k:Nat) (hk:k<N.length)=>MJ (m:=w.1) (n:=w.2) (show k<o.length by rw[hj.ci.lo];exact hk)
 have hlh:=YL o w.1 w.2
 have hla:=hj.ci.la
 have hrng:=fun x=>hj.ci.rng (x:=x)
 generalize B2 o w.1 w.2=o' at *
 generalize Du o w.1 w.2=lo at *
 generalize CJ o w.1 w.2=hi at *
 obtain⟨l0,lt,h1,rl,rh⟩:=hLH
 have hgx:∀x,0≤x→x<(N.length:Int)→o'.getD x.toNat 0=Gv hi lo (o.getD x.toNat 0):=fun x x0 x1=>hg _ (by omega)
 have hww:o'.getD w.1.toNat 0=o'.getD w.2.toNat 0:=by
  rw[hgx _ hw.1.1 hw.1.2,hgx _ hw.2.1 hw.2.2]
  rcases hlh with ⟨e1,e2⟩|⟨e1,e2⟩
  ·rw[←e1,←e2,Hg,Gh (by omega)]
  ·rw[←e1,←e2,Hg,Gh (by omega)]
 generalize hW':W++D9 (ar.getD lo.toNat []) (ar.getD hi.toNat [])=W' at *
 have hm:∀ {x y},EQ N.length o (w :: W) x y→EQ N.length o' W' x y:=fun {x y} g=>g.mono (fun x y x0 x1 y0 y1 e=>.cls x0 x1 y0 y1 (by rw[hgx x x0 x1,hgx y y0 y1,e])) fun x y hxy=>by
  rcases List.mem_cons.1 hxy with e|e
  ·subst e;exact .cls hw.1.1 hw.1.2 hw.2.1 hw.2.2 hww
  ·exact .wt (by rw[←hW'];exact List.mem_append_left _ e)
 have hadd:∀x∈ar.getD hi.toNat [],(Dv (ar.getD lo.toNat []) x.1).2=true→((Dv (ar.getD lo.toNat []) x.1).1,x.2)∈W':=fun x hx ht=>by
  rw[←hW']
  exact List.mem_append_right _ (List.mem_filterMap.2 ⟨x,hx,by rw[if_pos ht]⟩)
 refine⟨hci,fun k=>?_,fun q hq=>hm (hj.sp q hq),fun x x0 x1 a ha=>?_,fun X v hv=>?_⟩
 ·rw[Hf _ _ _ _ (by omega)]
  split
  ·exact A2u (hj.nd _) (hj.nd _)
  ·exact hj.nd k
 ·obtain⟨t,g1,g2⟩:=hj.sa x x0 x1 a ha
  have g2:=hm g2
  rw[hgx x x0 x1]
  obtain⟨r0,r1,r2⟩:=hrng x x0 x1
  by_cases e:o.getD x.toNat 0=hi
  ·rw[e,Hg]
   rw[e]at g1
   rw[Hf _ _ _ _ (by omega),if_pos rfl]
   cases ht:(Dv (ar.getD lo.toNat []) a.1).2 with
   | true=>exact⟨_,List.mem_append_left _ (Ry ht),g2.trans (.symm (.wt (hadd (a.1,t) g1 ht)))⟩
   | false=>exact⟨t,List.mem_append_right _ (List.mem_filter.2 ⟨g1,by show (!(Dv (ar.getD lo.toNat []) a.1).2)=true;rw[ht];rfl⟩),g2⟩
  ·rw[Gh e,Hf _ _ _ _ (by omega)]
   split
   ·rename_i e2
    refine⟨t,List.mem_append_left _ ?_,g2⟩
    rw[←e2];exact g1
   ·exact⟨t,g1,g2⟩
 ·obtain⟨c1,c2,c3⟩:=hj.co X v hv
  have hv1:v lo=v hi:=by
   have e:=c2 w (by simp)
   have e1:=c1 w.1 hw.1.1 hw.1.2
   have e2:=c1 w.2 hw.2.1 hw.2.2
   rcases hlh with ⟨e3,e4⟩|⟨e3,e4⟩
   ·rw[e3,e4,←e1,←e2,e]
   ·rw[e3,e4,←e1,←e2,e]
  refine⟨fun x x0 x1=>?_,fun u hu=>?_,fun r r0 r1 hr a ha=>?_⟩
  ·rw[hgx x x0 x1,c1 x x0 x1]
   by_cases e:o.getD x.toNat 0=hi
   ·rw[e,Hg,hv1]
   ·rw[Gh e]
  ·rw[←hW']at hu
   rcases List.mem_append.1 hu with hu|hu
   ·exact c2 u (List.mem_cons_of_mem _ hu)
   ·obtain⟨a,ha,he⟩:=List.mem_filterMap.1 hu
    split at he
    ·rename_i ht
     cases he
     have e1:=c3 lo l0 (by omega) rl _ (Ry ht)
     have e2:=c3 hi (by omega) h1 rh a ha
     rw[←hv1,e1]at e2
     exact e2
    ·cases he
  ·rw[Hf _ _ _ _ (by omega)]at ha
   rw[hgx r r0 r1]at hr
   have hro:o.getD r.toNat 0=r:=by
    by_cases e:o.getD r.toNat 0=hi
    ·rw[e,Hg]at hr
     rw[←hr];exact rl
    ·rw[Gh e]at hr;exact hr
   split at ha
   ·rename_i e2
    have e2:r=lo:=by omega
    rcases List.mem_append.1 ha with ha|ha
    ·rw[e2];exact c3 lo l0 (by omega) rl a ha
    ·rw[e2,hv1];exact c3 hi (by omega) h1 rh a (List.mem_filter.1 ha).1
   ·exact c3 r r0 r1 hro a ha
end
theorem UQ {h:AM} {N:List AE} {P:List (Int×Int)}:∀(k:Nat) {o:List Int} {ar:List (List (Int×Int))} {W:List (Int×Int)},JC h N P o ar W→NU o ar+W.length≤k→∃ar',JC h N P (Id k o ar W) ar' []
 | 0,o,ar,W,hj,hk=>by
  have:W=[]:=List.eq_nil_of_length_eq_zero (by omega)
  subst this
  exact⟨ar,hj⟩
 | k+1,o,ar,[],hj,hk=>⟨ar,hj⟩
 | k+1,o,ar,w :: W,hj,hk=>by
  simp only[Id]
  simp only[List.length_cons]at hk
  split
  ·rename_i he
   exact UQ k (A2t hj he) (by omega)
  ·rename_i hne
   have hw:=hj.ci.wr w (by simp)
   have hLH:=yM hj.ci hw.1.1 hw.1.2 hw.2.1 hw.2.2 hne
   have hws:=UK hj.ci hLH
   exact UQ k (y4 hj hne) (by rw[List.length_append];omega)
theorem y5 {c:List Int} {n:Nat} {w:Int×Int} (hw:w∈ET c n):∃k:Nat,k<n∧c.getD k 0≠(k:Int)∧w=((k:Int),c.getD k 0):=by
 unfold ET at hw
 obtain⟨k,hk,rfl⟩:=List.mem_map.1 hw
 obtain⟨h1,h2⟩:=List.mem_filter.1 hk
 exact⟨k,List.mem_range.1 h1,by simpa using h2,rfl⟩
theorem y6 {c:List Int} {n k:Nat} (hk:k<n) (h:c.getD k 0≠(k:Int)):((k:Int),c.getD k 0)∈ET c n:=by
 unfold ET
 exact List.mem_map.2 ⟨k,List.mem_filter.2 ⟨List.mem_range.2 hk,by simpa using h⟩,rfl⟩
theorem RA {n:Nat} {x y:Int} (x0:0≤x) (x1:x<(n:Int)) (y0:0≤y) (y1:y<(n:Int)):((Du (Az n) x y=x∧CJ (Az n) x y=y)∨(Du (Az n) x y=y∧CJ (Az n) x y=x))∧∀k:Nat,k<n→(B2 (Az n) x y).getD k 0=Gv (CJ (Az n) x y) (Du (Az n) x y) (k:Int):=by
 have e1:(Az n).getD x.toNat 0=x:=by rw[E6 (by omega)];omega
 have e2:(Az n).getD y.toNat 0=y:=by rw[E6 (by omega)];omega
 refine⟨?_,fun k hk=>?_⟩
 ·have:=YL (Az n) x y
  rw[e1,e2]at this
  exact this
 ·rw[MJ (by rw[Cf];exact hk),E6 hk]
theorem y7 {h:AM} {N:List AE} (hg:AY N) (hs:∀x∈N,KN x.2) {x y:Int} (x0:0≤x) (x1:x<(N.length:Int)) (y0:0≤y) (y1:y<(N.length:Int)):JC h N [(x,y)] (Az N.length) (Fv N) (ET (B2 (Az N.length) x y) N.length):=by
 obtain⟨hlh,hmg⟩:=RA x0 x1 y0 y1
 have hml:=JG (Az N.length) x y
 rw[Cf]at hml
 generalize B2 (Az N.length) x y=c at *
 generalize Du (Az N.length) x y=lo at *
 generalize CJ (Az N.length) x y=hi at *
 have hcr:∀z∈c,0≤z∧z<(N.length:Int):=fun z hz=>by
  obtain⟨k,hk,rfl⟩:=List.mem_iff_getElem.1 hz
  have:=hmg k (by omega)
  rw[List.getD_eq_getElem?_getD,List.getElem?_eq_getElem hk]at this
  simp only[Option.getD_some]at this
  rw[this]
  unfold Gv
  split
  ·rcases hlh with ⟨e,_⟩|⟨e,_⟩<;>rw[e]<;>omega
  ·omega
 have hxy:lo≠hi→(hi,lo)∈ET c N.length:=fun hne=>by
  have h0:0≤hi∧hi<(N.length:Int):=by rcases hlh with ⟨_,e⟩|⟨_,e⟩<;>rw[e]<;>omega
  have e1:((hi.toNat:Nat):Int)=hi:=by omega
  have e2:=hmg hi.toNat (by omega)
  rw[e1,Hg]at e2
  have:=y6 (c:=c) (n:=N.length) (k:=hi.toNat) (by omega) (by rw[e2,e1];exact hne)
  rw[e1,e2]at this
  exact this
 refine⟨bK hg hcr hml,fun k=>?_,fun q hq=>?_,fun z z0 z1 a ha=>?_,fun X v hv=>?_⟩
 ·rw[JH]
  have:KN (N.getD k (0,[])).2:=by
   by_cases hk:k<N.length
   ·exact hs _ (AD N (0,[]) hk)
   ·rw[List.getD_eq_getElem?_getD,List.getElem?_eq_none (by omega)];exact List.Pairwise.nil
  rw[List.Nodup,List.pairwise_map]
  exact this.imp fun h e=>by omega
 ·have:q=(x,y):=by simpa using hq
  subst this
  simp only
  by_cases e:lo=hi
  ·have:x=y:=by rcases hlh with ⟨e1,e2⟩|⟨e1,e2⟩<;>omega
   subst this
   exact .cls x0 x1 x0 x1 rfl
  ·rcases hlh with ⟨e1,e2⟩|⟨e1,e2⟩
   ·rw[←e1,←e2];exact .symm (.wt (hxy e))
   ·rw[←e1,←e2];exact .wt (hxy e)
 ·refine⟨a.2,?_,?_⟩
  ·rw[E6 (by omega),JH,Int.toNat_natCast]
   exact ha
  ·have:=(hg.2 _ (AD N (0,[]) (k:=z.toNat) (by omega))).2 a ha
   exact .cls this.1 this.2 this.1 this.2 rfl
 ·refine⟨fun z z0 z1=>?_,fun w hw=>?_,fun r r0 r1 _ a ha=>?_⟩
  ·rw[E6 (by omega)]
   congr 1
   omega
  ·obtain⟨k,hk,hne,rfl⟩:=y5 hw
   simp only
   rw[hmg k hk]at hne ⊢
   by_cases e:(k:Int)=hi
   ·rw[e,Hg]
    have hq:=hv.eq (x,y) (by simp)
    simp only at hq
    rcases hlh with ⟨e1,e2⟩|⟨e1,e2⟩
    ·rw[e1,e2];exact hq.symm
    ·rw[e1,e2];exact hq
   ·rw[Gh e]at hne
    exact absurd rfl hne
  ·rw[JH]at ha
   exact hv.arc r r0 r1 a ha
theorem tA {h:AM} {N:List AE} (hg:AY N) (hs:∀x∈N,KN x.2) {x y:Int} (x0:0≤x) (x1:x<(N.length:Int)) (y0:0≤y) (y1:y<(N.length:Int)):∃ar,JC h N [(x,y)] (QC N (B2 (Az N.length) x y)) ar [] :=
 UQ _ (y7 hg hs x0 x1 y0 y1) (Nat.le_refl _)
end
/- Plain: the types of classes, the arcs of classes; grammarlabref11.Unify and unify.Unify compute one structure. -/
section
def Uv (h:AM):Prop:=∀t∈h.1,Nrm t.2.1
theorem UR {b:List Int}:∀ {l:List Hb} {k:Nat},(Et b l k).2=true→∃j:Nat,j<l.length∧(Et b l k).1=((k+j:Nat):Int)∧(l.getD j Vz).2.1=b
 | [],k,h=>by cases h
 | t :: r,k,h=>by
  unfold Et at h ⊢
  by_cases e:t.2.1=b
  ·rw[if_pos e]
   exact⟨0,by simp,by simp,by simpa using e⟩
  ·rw[if_neg e]at h ⊢
   obtain⟨j,h1,h2,h3⟩:=UR h
   exact⟨j+1,by simp only[List.length_cons];omega,by rw[h2];congr 1;omega,by simpa using h3⟩
theorem bQ {b:List Int}:∀ {l:List Hb} {k:Nat},(∃t∈l,t.2.1=b)→(Et b l k).2=true
 | [],k,⟨t,ht,_⟩=>by cases ht
 | t :: r,k,⟨u,hu,e⟩=>by
  unfold Et
  by_cases e2:t.2.1=b
  ·rw[if_pos e2]
  ·rw[if_neg e2]
   rcases List.mem_cons.1 hu with rfl|hu
   ·exact absurd e e2
   ·exact bQ ⟨u,hu,e⟩
theorem tB {h:AM} (hk:WB h) (hn:Uv h) {a b:Int} (a0:0≤a) (a1:a<(h.1.length:Int)) (b0:0≤b) (b1:b<(h.1.length:Int)) :
  ((CD h a b).2=true→0≤(CD h a b).1∧(CD h a b).1<(h.1.length:Int)∧∀i,oC h (CD h a b).1 i=(oC h a i&&oC h b i))∧((∃i,oC h a i=true∧oC h b i=true)→(CD h a b).2=true):=by
 have wa:=hk.1.wds _ (CC a0 a1)
 have wb:=hk.1.wds _ (CC b0 b1)
 refine⟨fun hm=>?_,fun hi=>?_⟩
 ·obtain⟨j,h1,h2,h3⟩:=UR hm
  have h2:(CD h a b).1=((0+j:Nat):Int):=h2
  refine⟨by omega,by omega,fun i=>?_⟩
  have e:BM h (CD h a b).1=Fb (BM h a) (BM h b):=by
   rw[←h3]
   unfold BM
   rw[h2]
   simp
  unfold oC
  rw[e,Ro wa wb]
 ·obtain⟨t,ht,e⟩:=hk.1.meet _ (CC a0 a1) _ (CC b0 b1) hi
  obtain⟨x,hx,rfl⟩:=List.mem_map.1 ht
  exact bQ ⟨x,hx,x5 (hk.1.wds _ ht) (Xj wa wb) (hn x hx) (NQ _) fun i=>by rw[e i,Ro wa wb]⟩
theorem Wa {h:AM} (hk:WB h) (hn:Uv h) {a b:Int} (a0:0≤a) (a1:a<(h.1.length:Int)) (b0:0≤b) (b1:b<(h.1.length:Int)) :
  ((CD h a b).2=true→0≤(CD h a b).1∧(CD h a b).1<(h.1.length:Int)∧CH h a (CD h a b).1=true∧CH h b (CD h a b).1=true) ∧
  ∀x,0≤x→x<(h.1.length:Int)→CH h a x=true→CH h b x=true→(CD h a b).2=true∧CH h (CD h a b).1 x=true:=by
 obtain⟨m1,m2⟩:=tB hk hn a0 a1 b0 b1
 refine⟨fun e=>?_,fun x x0 x1 hax hbx=>?_⟩
 ·obtain⟨q0,q1,q2⟩:=m1 e
  refine⟨q0,q1,(CM hk a0 a1 q0 q1).2 fun i hi=>?_,(CM hk b0 b1 q0 q1).2 fun i hi=>?_⟩
  ·rw[q2 i,Bool.and_eq_true]at hi;exact hi.1
  ·rw[q2 i,Bool.and_eq_true]at hi;exact hi.2
 ·have ga:=(CM hk a0 a1 x0 x1).1 hax
  have gb:=(CM hk b0 b1 x0 x1).1 hbx
  obtain⟨i,hi⟩:=hk.1.some _ (CC x0 x1)
  have e:=m2 ⟨i,ga i hi,gb i hi⟩
  obtain⟨q0,q1,q2⟩:=m1 e
  refine⟨e,(CM hk q0 q1 x0 x1).2 fun j hj=>?_⟩
  rw[q2 j,Bool.and_eq_true]
  exact⟨ga j hj,gb j hj⟩
section
variable {h:AM} {N:List AE} {c:List Int}
theorem US (ht:D7 h N) {x:Nat} (hx:x<N.length):0≤(N.getD x (0,[])).1∧(N.getD x (0,[])).1<(h.1.length:Int):=ht _ (AD N (0,[]) hx)
theorem pC (hk:WB h) (hn:Uv h) (h0:0<h.1.length) (ht:D7 h N) (hc:QD N.length c):∀ {i:Nat} {p:List Int},i≤N.length→Hl h N c i=some p→∀x,x<i→CH h (N.getD x (0,[])).1 (p.getD (c.getD x 0).toNat 0)=true
 | 0,p,_,_,x,hx=>by omega
 | i+1,p,hi,hp,x,hx=>by
  simp only[Hl]at hp
  cases hq:Hl h N c i with
  | none=>rw[hq]at hp;cases hp
  | some q =>
   rw[hq]at hp
   simp only at hp
   split at hp
   ·rename_i hm
    cases hp
    obtain⟨ql,qr⟩:=O3 h0 hc (by omega) hq
    obtain⟨r1,r2,r3⟩:=hc.2 i (by omega)
    have tq:=qr (c.getD i 0).toNat (by omega)
    have ti:=US ht (x:=i) (by omega)
    obtain⟨m0,m1,m2,m3⟩:=(Wa hk hn tq.1 tq.2 ti.1 ti.2).1 hm
    obtain⟨s1,s2,s3⟩:=hc.2 x (by omega)
    rw[QE _ _ _ _ (by omega)]
    by_cases e:x=i
    ·subst e
     rw[if_pos rfl]
     exact m3
    ·have ih:=pC hk hn h0 ht hc (by omega) hq x (by omega)
     split
     ·rename_i e2
      rw[e2]at ih
      have tx:=US ht (x:=x) (by omega)
      exact Jv hk tx.1 tx.2 tq.1 tq.2 m0 m1 ih m2
     ·exact ih
   ·cases hp
theorem NV (hk:WB h) (hn:Uv h) (h0:0<h.1.length) (htop:NS h) (ht:D7 h N) (hc:QD N.length c) {u:Nat→Int} (hu:∀k,k<N.length→0≤u k∧u k<(h.1.length:Int)) (hb:∀x,x<N.length→CH h (N.getD x (0,[])).1 (u (c.getD x 0).toNat)=true) :
  ∀ {i:Nat},i≤N.length→∃p,Hl h N c i=some p∧∀k,k<N.length→CH h (p.getD k 0) (u k)=true
 | 0,_=>by
  refine⟨_,rfl,fun k hk=>?_⟩
  rw[List.getD_eq_getElem?_getD,List.getElem?_replicate,if_pos hk]
  exact htop _ (hu k hk).1 (hu k hk).2
 | i+1,hi=>by
  obtain⟨q,hq,hqu⟩:=NV hk hn h0 htop ht hc hu hb (i:=i) (by omega)
  obtain⟨ql,qr⟩:=O3 h0 hc (by omega) hq
  obtain⟨r1,r2,r3⟩:=hc.2 i (by omega)
  have tq:=qr (c.getD i 0).toNat (by omega)
  have ti:=US ht (x:=i) (by omega)
  have hul:=hu (c.getD i 0).toNat (by omega)
  obtain⟨m1,m2⟩:=(Wa hk hn tq.1 tq.2 ti.1 ti.2).2 _ hul.1 hul.2 (hqu _ (by omega)) (hb i (by omega))
  refine⟨q.set (c.getD i 0).toNat (CD h (q.getD (c.getD i 0).toNat 0) (N.getD i (0,[])).1).1,by simp only[Hl,hq];rw[if_pos m1],fun k hk=>?_⟩
  rw[QE _ _ _ _ (by omega)]
  split
  ·rename_i e;rw[e];exact m2
  ·exact hqu k hk
end
/-! The arcs of the classes -/
theorem Wb (c:List Int):∀(l L:List (Int×Int)),(L.map (·.1)).Nodup→((Hi c L l).map (·.1)).Nodup∧(∀a∈L,a∈Hi c L l)∧(∀a∈Hi c L l,a∈L∨∃b∈l,a=(b.1,c.getD b.2.toNat 0))∧(∀b∈l,∃t,(b.1,t)∈Hi c L l)
 | [],L,hL=>⟨hL,fun _ h=>h,fun _ h=>.inl h,fun _ h=>by cases h⟩
 | x :: l,L,hL=>by
  have e:Hi c L (x :: l)=Hi c (QF c L x) l:=rfl
  rw[e]
  have h1:((QF c L x).map (·.1)).Nodup∧(∀a∈L,a∈QF c L x)∧(∀a∈QF c L x,a∈L∨a=(x.1,c.getD x.2.toNat 0))∧∃t,(x.1,t)∈QF c L x:=by
   unfold QF
   split
   ·rename_i ht
    exact⟨hL,fun _ h=>h,fun _ h=>.inl h,_,Ry ht⟩
   ·rename_i ht
    refine⟨?_,fun _ h=>List.mem_append_left _ h,fun a h=>?_,c.getD x.2.toNat 0,List.mem_append_right _ (by simp)⟩
    ·rw[List.map_append,List.nodup_append]
     refine⟨hL,by simp,fun y hy z hz e=>?_⟩
     obtain⟨a,ha,rfl⟩:=List.mem_map.1 hy
     have hz:z=x.1:=by simpa using hz
     exact ht (bE a ha (e.trans hz))
    ·rcases List.mem_append.1 h with h|h
     ·exact .inl h
     ·exact .inr (by simpa using h)
  obtain⟨n1,s1,i1,t1,ht1⟩:=h1
  obtain⟨n2,s2,i2,c2⟩:=Wb c l _ n1
  refine⟨n2,fun a ha=>s2 a (s1 a ha),fun a ha=>?_,fun b hb=>?_⟩
  ·rcases i2 a ha with h|⟨b,hb,h⟩
   ·rcases i1 a h with h|h
    ·exact .inl h
    ·exact .inr ⟨x,by simp,h⟩
   ·exact .inr ⟨b,by simp[hb],h⟩
  ·rcases List.mem_cons.1 hb with rfl|hb
   ·exact⟨t1,s2 _ ht1⟩
   ·exact c2 b hb
structure A31 (N:List AE) (c t:List Int) (i:Nat) (g:List AE):Prop where
 len:g.length=N.length
 ty:∀k,k<N.length→(g.getD k (0,[])).1=t.getD k 0
 nd:∀k,((g.getD k (0,[])).2.map (·.1)).Nodup
 inn:∀k,∀a∈(g.getD k (0,[])).2,∃x,x<i∧(c.getD x 0).toNat=k∧∃b∈(N.getD x (0,[])).2,b.1=a.1∧a.2=c.getD b.2.toNat 0
 cov:∀x,x<i→∀b∈(N.getD x (0,[])).2,∃u,(b.1,u)∈(g.getD (c.getD x 0).toNat (0,[])).2
theorem Wc {N:List AE} {c t:List Int} (hc:QD N.length c):∀ {i:Nat},i≤N.length→A31 N c t i (Cy N c t i)
 | 0,_=>by
  have hg:∀k,(Cy N c t 0).getD k (0,[])=if k<N.length then (t.getD k 0,[]) else (0,[]):=fun k=>by
   unfold Cy
   rw[List.getD_eq_getElem?_getD,List.getElem?_map]
   by_cases hk:k<N.length
   ·rw[List.getElem?_range hk,if_pos hk];rfl
   ·rw[List.getElem?_eq_none (by simp;omega),if_neg hk];rfl
  refine⟨by simp[Cy],fun k hk=>by rw[hg,if_pos hk],fun k=>?_,fun k a ha=>?_,fun x hx=>by omega⟩
  ·rw[hg];split<;>simp
  ·rw[hg]at ha
   split at ha<;>cases ha
 | i+1,hi=>by
  have ih:=Wc (t:=t) hc (i:=i) (by omega)
  obtain⟨r1,r2,r3⟩:=hc.2 i (by omega)
  have hlt:(c.getD i 0).toNat<(Cy N c t i).length:=by rw[ih.len];omega
  have e:Cy N c t (i+1)=EC c (Cy N c t i) i (N.getD i (0,[])).2:=rfl
  rw[e]
  generalize Cy N c t i=g at *
  obtain⟨l1,l2,l3,l4⟩:=Wb c (N.getD i (0,[])).2 (g.getD (c.getD i 0).toNat (0,[])).2 (ih.nd _)
  have hg:∀k,(EC c g i (N.getD i (0,[])).2).getD k (0,[])=if k=(c.getD i 0).toNat then ((g.getD k (0,[])).1,Hi c (g.getD k (0,[])).2 (N.getD i (0,[])).2) else g.getD k (0,[]):=fun k=>by
   unfold EC
   rw[QH _ _ _ _ hlt]
   by_cases e:k=(c.getD i 0).toNat
   ·rw[if_pos e,if_pos e,e]
   ·rw[if_neg e,if_neg e]
  refine⟨by rw[WZ];exact ih.len,fun k hk=>?_,fun k=>?_,fun k a ha=>?_,fun x hx b hb=>?_⟩
  ·rw[hg];split
   ·exact ih.ty k hk
   ·exact ih.ty k hk
  ·rw[hg];split
   ·rename_i e;rw[e];exact l1
   ·exact ih.nd k
  ·rw[hg]at ha
   split at ha
   ·rename_i e
    subst e
    rcases l3 a ha with h|⟨b,hb,h⟩
    ·obtain⟨x,h1,h2⟩:=ih.inn _ a h
     exact⟨x,by omega,h2⟩
    ·exact⟨i,by omega,rfl,b,hb,by rw[h],by rw[h]⟩
   ·obtain⟨x,h1,h2⟩:=ih.inn _ a ha
    exact⟨x,by omega,h2⟩
  ·rw[hg]
   by_cases ex:x=i
   ·subst ex
    rw[if_pos rfl]
    exact l4 b hb
   ·obtain⟨u,hu⟩:=ih.cov x (by omega) b hb
    split
    ·rename_i e
     rw[e]at hu ⊢
     exact⟨u,l2 _ hu⟩
    ·exact⟨u,hu⟩
end
/- Plain: nodes whose arcs are put in order; the canonical form sees no more of them. -/
section
def LY (f:List AE):List AE:=f.map fun x=>(x.1,Am x.2)
theorem MK (f:List AE):(LY f).length=f.length:=by simp[LY]
theorem QI (f:List AE) (k:Nat):(LY f).getD k (0,[])=((f.getD k (0,[])).1,Am (f.getD k (0,[])).2):=by
 unfold LY
 rw[List.getD_eq_getElem?_getD,List.getElem?_map,List.getD_eq_getElem?_getD]
 cases f[k]?<;>rfl
theorem fQ {l:List (Int×Int)} (h:(l.map (·.1)).Nodup):(Am l).Pairwise (fun a b=>a.1<b.1):=by
 have hp:=Dk l
 have h1:=LL l
 have h2:((Am l).map (·.1)).Nodup:=((hp.map _).nodup_iff).2 h
 rw[List.Nodup,List.pairwise_map]at h2
 exact(h1.and h2).imp fun⟨a,b⟩=>by omega
theorem Wd {l:List (Int×Int)} (h:(l.map (·.1)).Nodup):Am (Am l)=Am l:=LG ((JA _).2 (fQ h))
theorem RB {f:List AE} (h:∀k,((f.getD k (0,[])).2.map (·.1)).Nodup):∀(k:Nat) (s:List Int×List Int) (n:Int),Dj (LY f) k s n=Dj f k s n
 | 0,_,_=>rfl
 | k+1,s,n=>by
  rw[FG,FG,QI,Wd (h _)]
  congr 1
  funext t a
  unfold EB
  rw[RB h k]
theorem fR {f:List AE} (h:∀k,((f.getD k (0,[])).2.map (·.1)).Nodup) (root:Int):Gl (LY f) root=Gl f root:=by
 unfold Gl Gk
 rw[MK,RB h]
 congr 1
 funext n
 unfold LB
 rw[QI,Wd (h _)]
end
/- Plain: grammarlabref11.Unify and unify.Unify compute one structure. -/
section
/-! Classes as a forest -/
theorem ML {n:Nat} {c:List Int} (hc:QD n c) {x:Int} (x0:0≤x) (x1:x<(n:Int)):Rt c x (c.getD x.toNat 0):=by
 obtain⟨h1,h2,h3⟩:=hc.2 x.toNat (by omega)
 have hb:Rt c (c.getD x.toNat 0) (c.getD x.toNat 0):=.base h3
 by_cases e:DH c x=x
 ·have e:c.getD x.toNat 0=x:=e
  rw[e]at hb ⊢
  exact hb
 ·exact .step e hb
theorem A2v {n:Nat} {c:List Int} (hc:QD n c):∃rk,Fo c rk:=by
 refine⟨fun z=>if DH c z=z then 0 else 1,fun z z0 z1=>?_,fun z z0 z1 hne=>?_⟩
 ·have:=hc.1
  obtain⟨h1,h2,h3⟩:=hc.2 z.toNat (by omega)
  exact⟨h1,by unfold DH;omega⟩
 ·have:=hc.1
  obtain⟨h1,h2,h3⟩:=hc.2 z.toNat (by omega)
  have h3:DH c (DH c z)=DH c z:=h3
  show (if DH c (DH c z)=DH c z then 0 else 1)<(if DH c z=z then 0 else 1)
  rw[if_pos h3,if_neg hne]
  exact Nat.zero_lt_one
theorem bR {n:Nat} {c:List Int} (hc:QD n c) {x:Int} (x0:0≤x) (x1:x<(n:Int)):DV c x=c.getD x.toNat 0:=Tv (ML hc x0 x1)
theorem A32 {n:Nat} {c:List Int} (hc:QD n c) {x y:Int} (x0:0≤x) (x1:x<(n:Int)) (y0:0≤y) (y1:y<(n:Int)) (h:c.getD x.toNat 0=c.getD y.toNat 0):EG n c [] x y:=.cls x0 x1 y0 y1 (ML hc x0 x1) (by rw[h];exact ML hc y0 y1)
def We (c p:List Int) (n:Nat):List Int:=(List.range n).map fun(k:Nat)=>p.getD (c.getD k 0).toNat 0
theorem YM {c p:List Int} {n k:Nat} (hk:k<n):(We c p n).getD k 0=p.getD (c.getD k 0).toNat 0:=by
 unfold We
 rw[List.getD_eq_getElem?_getD,List.getElem?_map,List.getElem?_range hk];rfl
def tC (g:List AE):List (List (Int×Int)):=g.map fun x=>Am x.2
theorem Rz (g:List AE) (k:Nat):(tC g).getD k []=Am (g.getD k (0,[])).2:=by
 unfold tC
 rw[List.getD_eq_getElem?_getD,List.getElem?_map,List.getD_eq_getElem?_getD]
 cases g[k]?<;>rfl
structure RC (h:AM) (N:List AE) (P:List (Int×Int)) (c p:List Int) (g:List AE):Prop where
 good:AY N
 ty:D7 h N
 rep:QD N.length c
 types:Hl h N c N.length=some p
 rows:A31 N c (We c p N.length) N.length g
 jc:∃ar,JC h N P c ar []
theorem A2w {h:AM} {N:List AE} {P:List (Int×Int)} {c p:List Int} {g:List AE} (hr:RC h N P c p g) {x y:Nat} (hx:x<N.length) (hy:y<N.length) (hxy:c.getD x 0=c.getD y 0) {a b:Int×Int} (ha:a∈(N.getD x (0,[])).2) (hb:b∈(N.getD y (0,[])).2) (hab:a.1=b.1):c.getD a.2.toNat 0=c.getD b.2.toNat 0:=by
 obtain⟨ar,hj⟩:=hr.jc
 obtain⟨t1,g1,e1⟩:=hj.sa (x:Int) (by omega) (by omega) a (by simpa[AR] using ha)
 obtain⟨t2,g2,e2⟩:=hj.sa (y:Int) (by omega) (by omega) b (by simpa[AR] using hb)
 rw[Int.toNat_natCast]at g1 g2
 rw[hxy]at g1
 rw[hab]at g1
 have hnd:=hj.nd (c.getD y 0).toNat
 have:t1=t2:=by
  have key:∀(l:List (Int×Int)),(l.map (·.1)).Nodup→∀f u v,(f,u)∈l→(f,v)∈l→u=v:=by
   intro l
   induction l with
   | nil=>intro _ f u v h;cases h
   | cons z l ih =>
    intro hn f u v h1 h2
    rw[List.map_cons,List.nodup_cons]at hn
    rcases List.mem_cons.1 h1 with e1|h1<;>rcases List.mem_cons.1 h2 with e2|h2
    ·rw[←e1]at e2;injection e2 with _ e2;exact e2.symm
    ·exact absurd (List.mem_map.2 ⟨_,h2,by rw[←e1]⟩) hn.1
    ·exact absurd (List.mem_map.2 ⟨_,h1,by rw[←e2]⟩) hn.1
    ·exact ih hn.2 f u v h1 h2
  exact key _ hnd _ _ _ g1 g2
 subst this
 rw[e1.nil,e2.nil]
section
variable {h:AM} {N:List AE} {P:List (Int×Int)} {c p:List Int} {g:List AE}
theorem A74 (hk:WB h) (hn:Uv h) (htop:NS h) (h0:0<h.1.length) (hr:RC h N P c p g):JI h N P c (We c p N.length) (tC g) []:=by
 obtain⟨ar,hj⟩:=hr.jc
 have hc:=hr.rep
 have hcl:=hc.1
 obtain⟨pl,pr⟩:=O3 h0 hc (Nat.le_refl _) hr.types
 have hup:=pC hk hn h0 hr.ty hc (Nat.le_refl _) hr.types
 have hrow:=hr.rows
 have hmem:∀k,∀a∈(tC g).getD k [],a∈(g.getD k (0,[])).2:=fun k a ha=>by
  rw[Rz]at ha
  exact(Dk _).mem_iff.1 ha
 have hmem2:∀k,∀a∈(g.getD k (0,[])).2,a∈(tC g).getD k []:=fun k a ha=>by
  rw[Rz]
  exact(Dk _).mem_iff.2 ha
 have hcr:∀x,x<N.length→0≤c.getD x 0∧c.getD x 0<(N.length:Int):=fun x hx=>by
  obtain⟨r1,r2,r3⟩:=hc.2 x hx
  exact⟨r1,by omega⟩
 have hat:∀x,x<N.length→∀b∈(N.getD x (0,[])).2,0≤b.2∧b.2<(N.length:Int):=fun x hx b hb=>(hr.good.2 _ (AD N (0,[]) hx)).2 b hb
 refine⟨hr.ty,A2v hc,hcl,by simp[We],by simp[tC,hrow.len],fun w hw=>(by cases hw),fun x x0 x1=>?_,fun k a ha=>?_,fun k=>?_,fun q hq=>?_,fun x r x0 x1 hxr=>?_,fun x r x0 x1 hxr a ha=>?_,fun X v hX hv=>?_⟩
 ·rw[YM (by omega)]
  have:=hcr x.toNat (by omega)
  exact pr _ (by omega)
 ·obtain⟨x,hx,hxk,b,hb,e1,e2⟩:=hrow.inn k a (hmem k a ha)
  have hb2:=hat x hx b hb
  refine⟨by rw[e2];exact hcr _ (by omega),?_⟩
  rw[←e1]
  unfold DN
  exact List.mem_flatMap.2 ⟨_,AD N (0,[]) hx,List.mem_map.2 ⟨b,hb,rfl⟩⟩
 ·rw[Rz]
  exact fQ (hrow.nd k)
 ·have hq2:=hj.sp q hq
  have he:=hq2.nil
  have hq3:(0≤q.1∧q.1<(N.length:Int))∧(0≤q.2∧q.2<(N.length:Int)):=by
   have key:∀ {x y:Int},EQ N.length c [] x y→(0≤x∧x<(N.length:Int))∧(0≤y∧y<(N.length:Int)):=by
    intro x y h
    induction h with
    | cls a b c d _=>exact⟨⟨a,b⟩,c,d⟩
    | wt h=>cases h
    | symm _ ih=>exact⟨ih.2,ih.1⟩
    | trans _ _ i1 i2=>exact⟨i1.1,i2.2⟩
   exact key hq2
  exact A32 hc hq3.1.1 hq3.1.2 hq3.2.1 hq3.2.2 he
 ·have e:=(ML hc x0 x1).det hxr
  subst e
  have h1:=hcr x.toNat (by omega)
  rw[YM (by omega),(hc.2 x.toNat (by omega)).2.2]
  exact hup x.toNat (by omega)
 ·have e:=(ML hc x0 x1).det hxr
  subst e
  have ha:a∈(N.getD x.toNat (0,[])).2:=ha
  obtain⟨u,hu⟩:=hrow.cov x.toNat (by omega) a ha
  refine⟨u,hmem2 _ _ hu,?_⟩
  obtain⟨y,hy,hyk,b,hb,e1,e2⟩:=hrow.inn _ _ hu
  have hcx:=hcr x.toNat (by omega)
  have hcy:=hcr y hy
  have hxy:c.getD x.toNat 0=c.getD y 0:=by omega
  have hs:=A2w hr (by omega) hy hxy ha hb e1.symm
  have ha2:=hat x.toNat (by omega) a ha
  have hb2:=hat y hy b hb
  have hcb:=hcr b.2.toNat (by omega)
  have e2:u=c.getD b.2.toNat 0:=e2
  refine A32 hc ha2.1 ha2.2 (by omega) (by omega) ?_
  rw[e2,(hc.2 b.2.toNat (by omega)).2.2]
  exact hs
 ·obtain⟨c1,c2,c3⟩:=hj.co X v hv
  obtain⟨q,hq,hqu⟩:=NV (i:=N.length) hk hn h0 htop hr.ty hc (u:=fun k=>(X.getD (v (k:Int)).toNat (0,[])).1)
   (fun k hk=>by
    have:=hv.rng (k:Int) (by omega) (by omega)
    exact hX _ (AD X (0,[]) (by omega)))
   (fun x hx=>by
    have h1:=hv.ty (x:Int) (by omega) (by omega)
    rw[Int.toNat_natCast]at h1
    have h2:=c1 (x:Int) (by omega) (by omega)
    rw[Int.toNat_natCast]at h2
    have h3:=hcr x hx
    rw[show (((c.getD x 0).toNat:Nat):Int)=c.getD x 0 by omega,←h2]
    exact h1) (Nat.le_refl _)
  rw[hr.types]at hq
  cases hq
  refine⟨fun x r x0 x1 hxr=>?_,fun w hw=>(by cases hw),fun r r0 r1 hrr=>?_,fun r r0 r1 hrr a ha=>?_⟩
  ·have e:=(ML hc x0 x1).det hxr
   subst e
   exact c1 x x0 x1
  ·have hrr:c.getD r.toNat 0=r:=hrr
   rw[YM (by omega),hrr]
   have:=hqu r.toNat (by omega)
   rwa [show ((r.toNat:Nat):Int)=r by omega]at this
  ·have hrr:c.getD r.toNat 0=r:=hrr
   obtain⟨x,hx,hxk,b,hb,e1,e2⟩:=hrow.inn _ a (hmem _ a ha)
   have hcx:=hcr x hx
   have hxr:c.getD x 0=r:=by omega
   have hvx:=c1 (x:Int) (by omega) (by omega)
   rw[Int.toNat_natCast,hxr]at hvx
   have hb2:=hat x hx b hb
   have hvb:=c1 b.2 hb2.1 hb2.2
   have:=hv.arc (x:Int) (by omega) (by omega) b (by simpa[AR] using hb)
   rw[hvx,e1,hvb,←e2]at this
   exact this
theorem A3S (hr:RC h N P c p g):LY g=quo c (We c p N.length) (tC g):=by
 have hc:=hr.rep
 have hl:=hr.rows.len
 apply List.ext_getElem?
 intro k
 by_cases hk:k<N.length
 ·have e1:(LY g)[k]?=some ((LY g).getD k (0,[])):=by
   rw[List.getD_eq_getElem?_getD,List.getElem?_eq_getElem (by rw[MK];omega)];rfl
  have e2:(quo c (We c p N.length) (tC g))[k]?=some ((quo c (We c p N.length) (tC g)).getD k (0,[])):=by
   rw[List.getD_eq_getElem?_getD,List.getElem?_eq_getElem (by rw[Dn,hc.1];omega)];rfl
  have e3:=Jw (p:=c) (ty:=We c p N.length) (ar:=tC g) (n:=(k:Int)) (by omega) (by rw[hc.1];omega)
  rw[Int.toNat_natCast]at e3
  rw[e1,e2,e3,QI,hr.rows.ty k hk,Rz]
  congr 2
  symm
  rw[List.map_congr_left (g:=id) fun a ha=>?_,List.map_id]
  have ha:=(Dk _).mem_iff.1 ha
  obtain⟨x,hx,hxk,b,hb,f1,f2⟩:=hr.rows.inn k a ha
  have hb2:=(hr.good.2 _ (AD N (0,[]) hx)).2 b hb
  obtain⟨r1,r2,r3⟩:=hc.2 b.2.toNat (by omega)
  rw[f2.symm]at r1 r2 r3
  rw[bR hc r1 (by omega),r3]
  rfl
 ·rw[List.getElem?_eq_none (by rw[MK];omega),List.getElem?_eq_none (by rw[Dn,hc.1];omega)]
end
theorem tD {h:AM} {N:List AE} {P:List (Int×Int)} {c p:List Int} {g:List AE} (hr:RC h N P c p g) (hf:Ut N):NK (LY g):=by
 intro x hx
 obtain⟨y,hy,rfl⟩:=List.mem_map.1 hx
 obtain⟨k,hk,rfl⟩:=List.mem_iff_getElem.1 hy
 have e:g[k]=g.getD k (0,[]):=by rw[List.getD_eq_getElem?_getD,List.getElem?_eq_getElem hk];rfl
 rw[e]
 have hst:=fQ (hr.rows.nd k)
 refine⟨(JA _).2 hst,Nat.le_trans (P6 hst fun a ha=>?_) (by omega)⟩
 obtain⟨x,hx,_,b,hb,f1,_⟩:=hr.rows.inn k a ((Dk _).mem_iff.1 ha)
 rw[←f1]
 exact hf _ (AD N (0,[]) hx) b hb
def Ie (a b:List AE):List Int:=QC (AQ a b) (B2 (Az (AQ a b).length) 0 (a.length:Int))
def NW (h:AM) (a b:List AE):List AE×Bool :=
 if (Hh h (AQ a b) (Ie a b)).2=true then (WY (AQ a b) (Ie a b) (Hh h (AQ a b) (Ie a b)).1 0,true) else ([],false)
theorem y8 {h:AM} {N:List AE} {P:List (Int×Int)} {o:List Int} {ar:List (List (Int×Int))} {W:List (Int×Int)} (hj:JC h N P o ar W):QD N.length o:=⟨hj.ci.lo,hj.ci.rep⟩
theorem y9 {h:AM} (hk:WB h) (hn:Uv h) (htop:NS h) {N:List AE} {P:List (Int×Int)} {c p:List Int} (hr:RC h N P c p (Cy N c (We c p N.length) N.length)) (hf:Ut N) (hN:0<N.length) :
  JI h N P c (We c p N.length) (tC (Cy N c (We c p N.length) N.length)) []∧AY (quo c (We c p N.length) (tC (Cy N c (We c p N.length) N.length)))∧WY N c (We c p N.length) 0=AO (quo c (We c p N.length) (tC (Cy N c (We c p N.length) N.length))) (DV c 0):=by
 have h0:0<h.1.length:=by
  have:=US hr.ty hN
  omega
 have hj:=A74 hk hn htop h0 hr
 have hQ:=LW hj hr.good.1 hf
 have hs:=tD hr hf
 have hq:=A3S hr
 refine⟨hj,hQ,?_⟩
 obtain⟨r1,r2,r3⟩:=hr.rep.2 0 hN
 unfold WY
 rw[←fR hr.rows.nd]
 show Gl (LY (Cy N c (We c p N.length) N.length)) (c.getD 0 0)=_
 rw[LI (by rw[hq];exact hQ) hs r1 (by rw[MK,hr.rows.len];omega),hq,bR hr.rep (x:=0) (by omega) (by omega)]
 rfl
section
variable {h:AM} {a b:List AE}
theorem Wf (va:VF h a) (vb:VF h b) (hab:a.length+b.length≤100):∃ar,JC h (AQ a b) [(0,(a.length:Int))] (Ie a b) ar []:=by
 have hl:=BJ a b
 have:=va.pos
 have:=vb.pos
 exact tA (DF va.good vb.good (by omega)) (Dx va.str vb.str) (by omega) (by omega) (by omega) (by omega)
theorem zA (hu:HU h) (hn:Uv h) (htop:NS h) (va:VF h a) (vb:VF h b) (hab:a.length+b.length≤100):NW h a b=BP h a b:=by
 have hl:=BJ a b
 have pa:=va.pos
 have pb:=vb.pos
 have hg:=DF va.good vb.good (by omega)
 have hs:=Dx va.str vb.str
 have ht:=GW va.ty vb.ty
 have hf:=GX (va.ft64 hu) (vb.ft64 hu)
 obtain⟨ar,hj⟩:=Wf va vb hab
 have hrep:=y8 hj
 have h0:0<h.1.length:=by
  have:=US ht (x:=0) (by omega)
  omega
 have e:Hh h (AQ a b) (Ie a b)=match Hl h (AQ a b) (Ie a b) (AQ a b).length with
  | none=>([],false)
  | some o=>(We (Ie a b) o (AQ a b).length,true):=rfl
 cases hp:Hl h (AQ a b) (Ie a b) (AQ a b).length with
 | none =>
  rw[hp]at e
  have e2:NW h a b=([],false):=by unfold NW;rw[e];rfl
  rw[e2,Pz va vb]
  intro X v hX hv
  obtain⟨c1,_,_⟩:=hj.co X v hv
  obtain⟨q,hq,_⟩:=NV (i:=(AQ a b).length) hu.ok hn h0 htop ht hrep (u:=fun k=>(X.getD (v (k:Int)).toNat (0,[])).1)
   (fun k hk=>by
    have:=hv.rng (k:Int) (by omega) (by omega)
    exact hX _ (AD X (0,[]) (by omega)))
   (fun x hx=>by
    have h1:=hv.ty (x:Int) (by omega) (by omega)
    rw[Int.toNat_natCast]at h1
    have h2:=c1 (x:Int) (by omega) (by omega)
    rw[Int.toNat_natCast]at h2
    have h3:=hrep.2 x hx
    rw[show ((((Ie a b).getD x 0).toNat:Nat):Int)=(Ie a b).getD x 0 by omega,←h2]
    exact h1) (Nat.le_refl _)
  rw[hp]at hq
  cases hq
 | some p =>
  rw[hp]at e
  have hr:RC h (AQ a b) [(0,(a.length:Int))] (Ie a b) p (Cy (AQ a b) (Ie a b) (We (Ie a b) p (AQ a b).length) (AQ a b).length):=⟨hg,ht,hrep,hp,Wc hrep (Nat.le_refl _),ar,hj⟩
  obtain⟨h1,h2,h3⟩:=y9 hu.ok hn htop hr hf (by omega)
  rw[LU hu (X7 va vb h1 h2)]
  unfold NW
  rw[e]
  simp only[if_true]
  rw[h3]
end
end
/- Functions of grammarlabref11: Both. -/
section
theorem fS (k:Nat) (l:List (Int×Int)):(Ap k l).length=l.length:=by simp[Ap]
theorem bS {k:Nat} {l:List (Int×Int)} {j:Nat} (h:j<l.length):Ap k (l.take (j+1))=Ap k (l.take j)++[((l.getD j (0,0)).1,(l.getD j (0,0)).2+(k:Int))]:=by
 rw[Ac l (0,0) h]
 simp[Ap]
theorem fT {f g:List AE} {j:Nat} (h:j<g.length):AQ f (g.take (j+1))=AQ f (g.take j)++[((g.getD j (0,[])).1,Ap f.length (g.getD j (0,[])).2)]:=by
 rw[Ac g (0,[]) h]
 simp[AQ]
def bT:Af:={ ins:=[Fl,Fl],pre:=fun(f,g,_)=>AY f∧AY g,out:=fun(f,g,_)=>[.p Fl (AQ f g)] }
attribute [local go_sem] bT
theorem A2x:Al Tryz.prog 63 bT:=by
 refine AU Tryz.func63 (by kernel_rfl) rfl Tryz.ntmps63 (by decide) (by kernel_rfl) (AG []) AJ ?_
 rintro w0 O0 ⟨f,g,u⟩ hc-⟨hf,hg⟩
 simp only[bT,AN]
 have hf1:=hf.1
 have hg1:=hg.1
 repeat'(first|exact trivial|refine eS rfl ?_|refine AB ?_|refine rX [0,1,4,5,6,7,8,15,31] hc ?_ ?_|refine rC ?_ ?_<;>intro AA<;>try(cases AA;done))
 ·simp only[AP];exact eV
 ·have hj0:AQ f (List.take 0 g)=f:=by simp[AQ]
  have hjl:=fun i:Nat=>BJ f (List.take i g)
  refine AL (ι:={i:Nat//i≤List.length g}) (fun i=>⟨[(0,.p Fl f),(1,.p Fl g),(5,.sr 9 J9 0 (AQ f (List.take i.1 g)).length),(6,.p (.int .i64) (i.1:Int))],[(9,.arr 88 J9 (AQ f (List.take i.1 g)))]⟩) (fun i=>List.length g-i.1) ⟨0,by omega⟩ (AC [(9,.nm 9)] rfl rfl ?_ ?_) (fun i=>?_)
  ·simp only
   rw[hj0]
   first|exact eN|refine eM ?_
  ·simp only
   rw[hj0]
   first|exact eN|refine eM ?_
  ·obtain⟨i,hi⟩:=i
   simp only
   repeat'(first|exact trivial|refine eS rfl ?_|refine AB ?_|refine rX [0,1,4,5,6,7,8,15,31] hc ?_ ?_|refine rC ?_ ?_<;>intro AA<;>try(cases AA;done))
   ·exact eV
   ·have hil:i<List.length g:=by exact eV
    have hm:=hg.2 _ (AD (g:List AE) (0,[]) hil)
    have hgn:=fT (f:=f) hil
    refine AL (ι:={k:Nat//k≤(List.getD g i (0,[])).2.length}) (fun k=>⟨[(0,.p Fl f),(1,.p Fl g),(5,.sr 9 J9 0 (AQ f (List.take i g)).length),(6,.p (.int .i64) (i:Int)),(7,.bp 7 [] 0),(8,.p (.int .i64) (k.1:Int))],[(9,.arr 88 J9 (AQ f (List.take i g))),(7,.box 88 true [.p T3 (List.getD g i (0,[])).1,.sr 59 Aq 0 (Ap (List.length f) ((List.getD g i (0,[])).2.take k.1)).length]),(59,.arr 108 Aq (Ap (List.length f) ((List.getD g i (0,[])).2.take k.1)))]⟩) (fun k=>(List.getD g i (0,[])).2.length-k.1) ⟨0,by omega⟩ (AC [(9,.nm 9),(7,.nm 7),(59,.nil)] rfl rfl ?_ ?_) (fun k=>?_)
    ·first|exact eN|refine eM ?_
     exact⟨rfl,rfl⟩
    ·first|exact eN|refine eM ?_
    ·obtain⟨k,hk⟩:=k
     simp only
     repeat'(first|exact trivial|refine eS rfl ?_|refine AB ?_|refine rX [0,1,4,5,6,7,8,15,31] hc ?_ ?_|refine rC ?_ ?_<;>intro AA<;>try(cases AA;done))
     ·exact AA
     ·have hkl:k<(List.getD g i (0,[])).2.length:=by exact eV
      have ha:=hm.2 _ (AD (List.getD g i (0,[])).2 (0,0) hkl)
      have h5:=List.length_take_le k (List.getD g i (0,[])).2
      have h6:=hm.1
      refine⟨by assumption,AA,by assumption,AA,⟨by exact eV,by exact eV⟩,?_⟩
      rw[fS]
      simp only[AP]
      dsimp only[Ty.den]at *
      omega
     ·exact eV
     ·have hkl:k<(List.getD g i (0,[])).2.length:=by exact eV
      refine⟨⟨k+1,by omega⟩,by simp only;omega,AC [(9,.nm 9),(7,.nm 7),(59,.nm 59)] rfl rfl ?_ ?_⟩
      ·simp only
       rw[bS hkl]
       first|exact eN|refine eM ?_
      ·simp only
       first|exact eN|refine eM ?_
     ·rw[hjl]
      have:=List.length_take_le i g
      simp only[AP]
      dsimp only[Ty.den]at *
      omega
     ·exact eV
     ·have hkl:(List.getD g i (0,[])).2.take k=(List.getD g i (0,[])).2:=List.take_of_length_le (by exact eV)
      rw[hkl]
      refine⟨⟨i+1,by omega⟩,by simp only;omega,AC [(9,.nm 9)] rfl rfl ?_ ?_⟩
      ·simp only
       rw[hgn]
       first|exact eN|refine eM ?_
      ·simp only
       rw[hgn]
       first|exact eN|refine eM ?_
   ·have hil:List.take i g=g:=List.take_of_length_le (by exact eV)
    rw[hil]
    exact AH hc [.tmp 4] rfl (.inl rfl) (by simp) (by first|exact eR|refine Aw ?_)
end
/- Functions of grammarlabref11: Unify, All. -/
section
attribute [local go_sem] bT YF UL UO bM
def R0:Af:={ ins:=[T3],pre:=fun(n,_)=>(0:Int)≤n∧n≤(100000:Int),out:=fun(n,_)=>[.p Ek (Az (Int.toNat n))] }
attribute [local go_sem] R0
theorem tE:Al Tryz.prog 66 R0:=by
 refine AU Tryz.func66 (by kernel_rfl) rfl Tryz.ntmps66 (by decide) (by kernel_rfl) (AG []) AJ ?_
 rintro w0 O0 ⟨n,u⟩ hc-⟨h0,h1⟩
 simp only[R0,AN]
 repeat'(first|exact trivial|refine eS rfl ?_|refine AB ?_|refine rX [0,2,3,4,7] hc ?_ ?_|refine rC ?_ ?_<;>intro AA<;>try(cases AA;done))
 refine AL (ι:={i:Nat//i≤n.toNat}) (fun i=>⟨[(0,.p T3 n),(3,.sr 13 T3 0 i.1),(4,.p (.int .i64) (i.1:Int))],[(13,.arr 3 T3 (Az i.1))]⟩) (fun i=>n.toNat-i.1) ⟨0,by omega⟩ (AC [(13,.nil)] rfl rfl ?_ ?_) (fun i=>?_)
 ·first|exact eN|refine eM ?_
  rfl
 ·first|exact eN|refine eM ?_
 ·obtain⟨i,hi⟩:=i
  repeat'(first|exact trivial|refine eS rfl ?_|refine AB ?_|refine rX [0,2,3,4,7] hc ?_ ?_|refine rC ?_ ?_<;>intro AA<;>try(cases AA;done))
  ·simp only[AP];exact eV
  ·exact eV
  ·have hlen:(Az i).take i=Az i:=List.take_of_length_le (by rw[Cf];exact Nat.le_refl i)
   refine⟨⟨i+1,by exact eV⟩,by simp only;exact eV,AC [(13,.nm 13)] rfl rfl ?_ ?_⟩
   ·simp only
    rw[hlen,Q9]
    first|exact eN|refine eM ?_
   ·first|exact eN|refine eM ?_
  ·have hn:i=n.toNat:=by exact eV
   have hlen:(Az i).take i=Az i:=List.take_of_length_le (by rw[Cf];exact Nat.le_refl i)
   subst hn
   exact AH hc [.tmp 2] rfl (.inl rfl) (by simp) (by first|exact eR|refine Aw ?_;exact hlen)
noncomputable def QJ:Af:={ ins:=[GD,Ds,Ds],pre:=fun(h,a,b,_)=>HU h∧VF h a∧VF h b∧List.length a+List.length b≤100,out:=fun(h,a,b,_)=>[.p Ds (NW h a b).1,.p .bool (NW h a b).2] }
attribute [local go_sem] QJ
theorem zB:Al Tryz.prog 19 QJ:=by
 refine AU Tryz.func19 (by kernel_rfl) rfl Tryz.ntmps19 (by decide) (by kernel_rfl) (AG [(63,bT),(66,R0),(65,YF),(64,UL),(67,UO),(68,bM)]) (AF A2x (AF tE (AF yJ (AF yT (AF y3 (AF A2s AJ)))))) ?_
 rintro w0 O0 ⟨⟨ht,hf⟩,a,b,u⟩ hc-⟨hu,va,vb,hab⟩
 simp only[QJ,AN]
 have hl:=BJ a b
 have pa:=va.pos
 have pb:=vb.pos
 have hg:=DF va.good vb.good (by omega)
 have hty:=GW va.ty vb.ty
 have hft:=GX (va.ft64 hu) (vb.ft64 hu)
 have hst:=Dx va.str vb.str
 obtain⟨ar,hj⟩:=Wf va vb hab
 have hrep:=y8 hj
 have hml:=JG (Az (AQ a b).length) 0 (a.length:Int)
 rw[Cf]at hml
 have h0:0<List.length ht:=by
  have:=US hty (x:=0) (by omega)
  have h2:(0:Int)<(List.length ht:Int):=by
   have:=this.2
   exact Int.lt_of_le_of_lt (US hty (x:=0) (by omega)).1 this
  omega
 have hwd:∀x∈(ht:List Hb),x.2.1.length≤100000:=fun x hx=>Nat.le_trans (hu.ok.1.wid x.2.1 (List.mem_map.2 ⟨x,hx,rfl⟩)) (by omega)
 have hcr:∀x∈Ie a b,0≤x∧x<((AQ a b).length:Int):=fun x hx=>by
  obtain⟨k,hk,rfl⟩:=List.mem_iff_getElem.1 hx
  have hr:=hrep.2 k (by rw[←hrep.1];exact hk)
  rw[List.getD_eq_getElem?_getD,List.getElem?_eq_getElem hk]at hr
  simp only[Option.getD_some]at hr
  have:=hrep.1
  omega
 have hmr:∀x∈B2 (Az (AQ a b).length) 0 (a.length:Int),0≤x∧x<((AQ a b).length:Int):=fun x hx=>by
  obtain⟨hlh,hmg⟩:=RA (n:=(AQ a b).length) (x:=0) (y:=(a.length:Int)) (by omega) (by omega) (by omega) (by omega)
  obtain⟨k,hk,rfl⟩:=List.mem_iff_getElem.1 hx
  have:=hmg k (by omega)
  rw[List.getD_eq_getElem?_getD,List.getElem?_eq_getElem hk]at this
  simp only[Option.getD_some]at this
  rw[this]
  unfold Gv
  split
  ·rcases hlh with ⟨e,_⟩|⟨e,_⟩<;>rw[e]<;>omega
  ·omega
 have htl:(Hh (ht,hf) (AQ a b) (Ie a b)).2=true→(Hh (ht,hf) (AQ a b) (Ie a b)).1.length=(AQ a b).length:=fun h=>by
  unfold Hh at h ⊢
  cases hp:Hl (ht,hf) (AQ a b) (Ie a b) (AQ a b).length with
  | none=>rw[hp]at h;cases h
  | some p=>simp
 have hu1:NW (ht,hf) a b=if (Hh (ht,hf) (AQ a b) (Ie a b)).2=true then (WY (AQ a b) (Ie a b) (Hh (ht,hf) (AQ a b) (Ie a b)).1 0,true) else ([],false):=rfl
 have hcl:QC (AQ a b) (B2 (Az (AQ a b).length) 0 (a.length:Int))=Ie a b:=rfl
 repeat'(first|exact trivial|refine eS rfl ?_|refine AB ?_|refine rX [0,1,2,3,4,5,6,7,8,9,10,11,34] hc ?_ ?_|refine rC ?_ ?_<;>intro AA<;>try(cases AA;done))
 ·exact⟨va.good,vb.good⟩
 ·rw[Cf]
  refine⟨by exact eV,⟨by exact eV,by exact eV,by exact eV⟩,hg,hml,hmr⟩
 ·rw[hcl]
  exact⟨hrep,hty,h0,by exact eV,hwd⟩
 ·rw[hcl]at AA
  rw[if_neg (by rw[AA];simp)]at hu1
  exact AH hc [.cell 6 25,.tmp 7] rfl (.inl rfl) (by simp) (by rw[hu1];first|exact eR|refine Aw ?_)
 ·rw[hcl]at AA ⊢
  refine⟨hg,hrep.1,htl AA,hcr,by exact eV,by exact eV,fun x hx=>Nat.le_trans (P6 (hst x hx) (hft x hx)) (by omega)⟩
 ·rw[hcl]at AA ⊢
  rw[if_pos AA]at hu1
  exact AH hc [.cell 6 25,.tmp 7] rfl (.inl rfl) (by simp) (by rw[hu1];first|exact eR|refine Aw ?_)
end
/- Functions of path: At; of grammarlablaw11: short. -/
section
attribute [local go_sem] o8
def J1 (f:List AE):Int→List Int→Int×Bool
 | n,[]=>(n,true)
 | n,e :: p=>if (FI (AR f n) e).2=true then J1 f (FI (AR f n) e).1 p else (0,false)
theorem Wg {p:List Int} {k:Nat} (h:k<p.length):p.drop k=p.getD k 0 :: p.drop (k+1):=by
 rw[List.drop_eq_getElem_cons h]
 simp[List.getD_eq_getElem?_getD,h]
theorem bU {l:List (Int×Int)} {e:Int} (h:(FI l e).2=true):∃a∈l,a.1=e∧a.2=(FI l e).1:=by
 induction l with
 | nil=>simp[FI]at h
 | cons a l ih =>
  simp only[FI]at h ⊢
  split
  ·rename_i e1
   exact⟨a,by simp,e1,rfl⟩
  ·rename_i e1
   rw[if_neg e1]at h
   obtain⟨b,hb,h1,h2⟩:=ih h
   exact⟨b,by simp[hb],h1,h2⟩
theorem tF {l:List (Int×Int)} (hs:KN l) (hn:∀a∈l,0≤a.2) (e:Int):FI l e=if cB l e<0 then (0,false) else (cB l e,true):=by
 cases h:(FI l e).2 with
 | true =>
  obtain⟨a,ha,e1,e2⟩:=bU h
  have ht:=oK hs ha
  rw[e1]at ht
  have:=hn a ha
  rw[if_neg (by omega),ht,e2,←h]
 | false =>
  have hno:∀a∈l,a.1≠e:=by
   intro a ha e1
   clear hs hn
   induction l with
   | nil=>cases ha
   | cons b l ih =>
    simp only[FI]at h
    split at h
    ·cases h
    ·rename_i hb
     rcases List.mem_cons.1 ha with rfl|ha
     ·exact hb e1
     ·exact ih h ha
  have ht:cB l e=-1:=by
   unfold cB
   clear hs hn h
   generalize (-1:Int)=t
   induction l with
   | nil=>rfl
   | cons b l ih =>
    rw[List.foldl_cons,if_neg (hno b (by simp))]
    exact ih (fun a ha=>hno a (by simp[ha]))
  have h0:(FI l e).1=0:=by
   clear hs hn ht
   induction l with
   | nil=>rfl
   | cons b l ih =>
    simp only[FI]
    rw[if_neg (hno b (by simp))]
    refine ih ?_ (fun a ha=>hno a (by simp[ha]))
    simp only[FI]at h
    rwa [if_neg (hno b (by simp))]at h
  rw[ht,if_pos (by decide),←h0,←h]
theorem bV {f:List AE} (hf:AY f) (hs:∀x∈f,KN x.2):∀(p:List Int) (n:Int),J1 f n p=match Bn f n p with|some m=>(m,true)|none=>(0,false)
 | [],n=>rfl
 | e :: p,n=>by
  have h:=tF (Ic hs n) (fun a ha=>(BC hf ha).1) e
  simp only[J1,Bn]
  rw[h]
  by_cases ht:cB (AR f n) e<0
  ·rw[if_pos ht,if_pos ht]
   rfl
  ·rw[if_neg ht,if_neg ht]
   exact bV hf hs p _
def atS:Af:={ ins:=[Ds,Ek],pre:=fun(f,_,_)=>AY f∧0<List.length f,out:=fun(f,p,_)=>[.p T3 (J1 f 0 p).1,.p .bool (J1 f 0 p).2] }
attribute [local go_sem] atS
theorem A76:Al Tryz.prog 89 atS:=by
 refine AU Tryz.func89 (by kernel_rfl) rfl Tryz.ntmps89 (by decide) (by kernel_rfl) (AG [(123,o8)]) (AF A2q AJ) ?_
 rintro w0 O0 ⟨f,p,u⟩ hc ⟨-,⟨hpl,-⟩,-⟩ ⟨hf,h0⟩
 simp only[AP]at hpl
 simp only[atS,AN]
 have hsm:Ej f:=⟨hf.1,fun x hx=>(hf.2 x hx).1⟩
 have h0:0<f.length:=h0
 repeat'(first|exact trivial|refine eS rfl ?_|refine AB ?_|refine rX [0,1,2,4,5,6,8,9,10,11,12,13,14,25] hc ?_ ?_|refine rC ?_ ?_<;>intro AA<;>try(cases AA;done))
 refine AL (ι:={s:Nat×Int//s.1≤p.length∧(0≤s.2∧s.2<(f.length:Int))∧J1 f 0 p=J1 f s.2 (p.drop s.1)}) (fun s=>⟨[(2,.bp 2 [] 0),(6,.p T3 s.1.2),(11,.p Ek p),(12,.p (.int .i64) (p.length:Int)),(13,.p (.int .i64) (s.1.1:Int))],[(2,.box 25 true [.p Fl f])]⟩) (fun s=>p.length-s.1.1) ⟨(0,0),Nat.zero_le _,⟨Int.le_refl 0,by show (0:Int)<_;omega⟩,rfl⟩ (AC [(2,.nm 2)] rfl rfl ?_ ?_) (fun s=>?_)
 ·first|exact eN|refine eM ?_
 ·first|exact eN|refine eM ?_
 ·obtain⟨⟨k,n⟩,hk,hn,he⟩:=s
  simp only at hk hn he ⊢
  repeat'(first|exact trivial|refine eS rfl ?_|refine AB ?_|refine rX [0,1,2,4,5,6,8,9,10,11,12,13,14,25] hc ?_ ?_|refine rC ?_ ?_<;>intro AA<;>try(cases AA;done))
  ·exact AA
  ·exact⟨hsm,hn⟩
  ·have hk2:k<p.length:=Int.ofNat_lt.1 (by assumption)
   have h1:J1 f 0 p=(0,false):=by
    rw[he,Wg hk2]
    simp only[J1]
    rw[if_neg (by rw[AA];simp)]
   exact AH hc [.tmp 4,.tmp 5] rfl (.inl rfl) (by simp) (by rw[h1];first|exact eR|refine Aw ?_)
  ·omega
  ·have hk2:k<p.length:=Int.ofNat_lt.1 (by assumption)
   have h1:=he
   rw[Wg hk2]at h1
   simp only[J1]at h1
   rw[if_pos AA]at h1
   obtain⟨a,ha,-,e2⟩:=bU AA
   have hr:=BC hf ha
   rw[e2]at hr
   refine⟨⟨(k+1,(FI (f.getD n.toNat (0,[])).2 (p.getD k 0)).1),hk2,hr,h1⟩,by simp only;omega,AC [(2,.nm 2)] rfl rfl ?_ ?_⟩
   ·first|exact eN|refine eM ?_
   ·first|exact eN|refine eM ?_
  ·have hk2:p.drop k=[]:=List.drop_eq_nil_of_le (Int.ofNat_le.1 AA)
   rw[hk2]at he
   exact AH hc [.tmp 4,.tmp 5] rfl (.inl rfl) (by simp) (by rw[he];first|exact eR|refine Aw ?_;exact⟨rfl,rfl⟩)
def ftP (h:AM) (x:Int):Bool:=decide (0≤x)&&decide (x<(h.2.length:Int))
def NX (h:AM) (p:List Int):Bool:=decide (p.length≤8)&&p.all (ftP h)
def GY (h:AM) (l:List (List Int)):Bool:=l.all (NX h)
def O4:Af:={ ins:=[GD,zP],pre:=fun _=>True,out:=fun(h,l,_)=>[.p .bool (GY h l)],lend:=true }
theorem fU:Al Tryz.prog 23 O4:=by
 refine AU Tryz.func23 (by kernel_rfl) rfl Tryz.ntmps23 (by decide) (by kernel_rfl) (AG []) AJ ?_
 rintro w0 O0 ⟨⟨ht,hf⟩,l,u⟩ hc ⟨-,⟨hl,-⟩,-⟩ -
 simp only[AP]at hl
 simp only[O4,AN]
 repeat'(first|exact trivial|refine eS rfl ?_|refine AB ?_|refine rX [0,1,2,4,6,8,9,10,11,12,17,18,19,20,21,32] hc ?_ ?_|refine rC ?_ ?_<;>intro AA<;>try(cases AA;done))
 refine AL (ι:={k:Nat//k≤l.length∧(l.take k).all (NX (ht,hf))=true}) (fun k=>⟨[(2,.bp 2 [] 0),(9,.p zP l),(10,.p (.int .i64) (l.length:Int)),(11,.p (.int .i64) (k.1:Int))],[(2,.box 29 true [.p YW ht,.p ZP hf])]⟩) (fun k=>l.length-k.1) ⟨0,by simp⟩ (AC [(2,.nm 2)] rfl rfl ?_ ?_) (fun k=>?_)
 ·first|exact eN|refine eM ?_
 ·first|exact eN|refine eM ?_
 ·obtain⟨k,hk,hall⟩:=k
  repeat'(first|exact trivial|refine eS rfl ?_|refine AB ?_|refine rX [0,1,2,4,6,8,9,10,11,12,17,18,19,20,21,32] hc ?_ ?_|refine rC ?_ ?_<;>intro AA<;>try(cases AA;done))
  ·exact AA
  ·have hkl:k<l.length:=Int.ofNat_lt.1 (by assumption)
   have h1:GY (ht,hf) l=false:=by
    unfold GY
    rw[List.all_eq_false]
    refine⟨_,AD l [] hkl,?_⟩
    unfold NX
    rw[Bool.and_eq_true,decide_eq_true_eq]
    rintro⟨h2,-⟩
    omega
   exact AH hc [.tmp 4] rfl (.inl rfl) (by simp) (by rw[h1];first|exact eR|refine Aw ?_)
  ·have hkl:k<l.length:=Int.ofNat_lt.1 (by assumption)
   have h8:(l.getD k []).length≤8:=by omega
   have hmem:=AD l [] hkl
   generalize hp:l.getD k []=p at *
   refine AL (ι:={j:Nat//j≤p.length∧(p.take j).all (ftP (ht,hf))=true}) (fun j=>⟨[(2,.bp 2 [] 0),(9,.p zP l),(10,.p (.int .i64) (l.length:Int)),(11,.p (.int .i64) (k:Int)),(18,.p Ek p),(19,.p (.int .i64) (p.length:Int)),(20,.p (.int .i64) (j.1:Int))],[(2,.box 29 true [.p YW ht,.p ZP hf])]⟩) (fun j=>p.length-j.1) ⟨0,by simp⟩ (AC [(2,.nm 2)] rfl rfl ?_ ?_) (fun j=>?_)
   ·first|exact eN|refine eM ?_
   ·first|exact eN|refine eM ?_
   ·obtain⟨j,hj,hja⟩:=j
    repeat'(first|exact trivial|refine eS rfl ?_|refine AB ?_|refine rX [0,1,2,4,6,8,9,10,11,12,17,18,19,20,21,32] hc ?_ ?_|refine rC ?_ ?_<;>intro AA<;>try(cases AA;done))
    ·exact AA
    ·have hjl:j<p.length:=Int.ofNat_lt.1 (by assumption)
     have h1:GY (ht,hf) l=false:=by
      unfold GY
      rw[List.all_eq_false]
      refine⟨_,hmem,?_⟩
      unfold NX
      rw[Bool.and_eq_true,List.all_eq_true]
      rintro⟨-,h2⟩
      have h3:=h2 _ (AD p 0 hjl)
      unfold ftP at h3
      rw[Bool.and_eq_true,decide_eq_true_eq,decide_eq_true_eq]at h3
      rcases AA with h|h
      ·exact absurd h3.1 (Int.not_le.2 h)
      ·exact absurd h3.2 (Int.not_lt.2 h)
     exact AH hc [.tmp 4] rfl (.inl rfl) (by simp) (by rw[h1];first|exact eR|refine Aw ?_)
    ·omega
    ·have hjl:j<p.length:=Int.ofNat_lt.1 (by assumption)
     refine⟨⟨j+1,hjl,?_⟩,by simp only;omega,AC [(2,.nm 2)] rfl rfl ?_ ?_⟩
     ·rw[Ac p 0 hjl,List.all_append,hja]
      have h3:ftP (ht,hf) (p.getD j 0)=true:=by
       unfold ftP
       rw[Bool.and_eq_true,decide_eq_true_eq,decide_eq_true_eq]
       exact AA
      simpa using h3
     ·first|exact eN|refine eM ?_
     ·first|exact eN|refine eM ?_
    ·omega
    ·have hjl:p.take j=p:=List.take_of_length_le (Int.ofNat_le.1 AA)
     rw[hjl]at hja
     refine⟨⟨k+1,hkl,?_⟩,by simp only;omega,AC [(2,.nm 2)] rfl rfl ?_ ?_⟩
     ·rw[Ac l [] hkl,List.all_append,hall,hp]
      have h3:NX (ht,hf) p=true:=by
       unfold NX
       rw[hja,decide_eq_true h8]
       rfl
      simpa using h3
     ·first|exact eN|refine eM ?_
     ·first|exact eN|refine eM ?_
  ·have hk:l.take k=l:=List.take_of_length_le (Int.ofNat_le.1 AA)
   rw[hk]at hall
   have h1:GY (ht,hf) l=true:=hall
   exact AH hc [.tmp 4] rfl (.inl rfl) (by simp) (by rw[h1];first|exact eR|refine Aw ?_)
theorem tG {h:AM} {l:List (List Int)} (hs:GY h l=true):∀p∈l,Uu h p∧p.length≤8:=fun p hp=>by
 have:=List.all_eq_true.1 hs p hp
 unfold NX at this
 rw[Bool.and_eq_true,decide_eq_true_eq,List.all_eq_true]at this
 refine⟨fun e he=>?_,this.1⟩
 have h2:=this.2 e he
 unfold ftP at h2
 rw[Bool.and_eq_true,decide_eq_true_eq,decide_eq_true_eq]at h2
 exact h2
end
/- Functions of unify: Unify. -/
section
noncomputable def Ig:Af:={ ins:=[GD,Ds,Ds],pre:=fun(h,a,b,_)=>HU h∧VF h a∧VF h b∧List.length a+List.length b≤10000,out:=fun(h,a,b,_)=>[.p Ds (BP h a b).1,.p .bool (BP h a b).2] }
attribute [local go_sem] Ig
theorem UT:Al Tryz.prog 18 Ig:=by
 refine AU Tryz.func18 (by kernel_rfl) rfl Tryz.ntmps18 (by decide) (by kernel_rfl) (AG []) AJ ?_
 rintro w0 O0 ⟨h,a,b,u⟩ hc-⟨hu,va,vb,hab⟩
 simp only[Ig,AN]
 repeat'(first|exact trivial|refine eS rfl ?_|refine AB ?_|refine rX [0,1,2,3,4,5,6,7,8,25] hc ?_ ?_|refine rC ?_ ?_<;>intro AA<;>try(cases AA;done))
 refine cP 3 hc ?_ ?_
 ·trivial
 ·refine rM hc (Tu h [] [] [] a va.good (by simp) rfl rfl) [(1,.nm 11),(2,.nil),(3,.nil),(4,.nil)] [] ?_ ?_ ?_
  ·first|exact eN|refine eM ?_
  ·simp only[Q2]
   first|exact eN|refine eM ?_
  ·rintro _ _ ⟨rfl,rfl⟩
   refine⟨[(11,.nm 1),(102,.nm 2),(103,.nm 3),(104,.nm 4)],.raw (.tuple #[]),[(11,.box 94 true [.p GD h,.sr 102 T3 0 (BI 0 a.length).length,.sr 103 T3 0 (BZ a a.length).length,.sr 104 CE 0 (Cw 0 a a.length).length]),(102,.arr 3 T3 (BI 0 a.length)),(103,.arr 3 T3 (BZ a a.length)),(104,.arr 86 CE (Cw 0 a a.length))],rfl,rfl,?_,?_,rfl,rfl,Dc ?_⟩
   ·simp only[Q2]
    first|exact eN|refine eM ?_
   ·first|exact eN|refine eM ?_
   ·have la:(BI 0 a.length).length=a.length:=F9 0 a.length
    have lt:(BZ a a.length).length=a.length:=by unfold BZ;rw[List.length_map,List.take_length]
    have lr:(Cw 0 a a.length).length=a.length:=by unfold Cw;rw[List.length_map,List.take_length]
    repeat'(first|exact trivial|refine eS rfl ?_|refine AB ?_|refine rX [0,1,2,3,4,5,6,7,8,25] hc ?_ ?_|refine rC ?_ ?_<;>intro AA<;>try(cases AA;done))
    refine cP 3 hc ?_ ?_
    ·trivial
    ·refine rM hc (Tu h (BI 0 a.length) (BZ a a.length) (Cw 0 a a.length) b vb.good (by omega) (by omega) (by omega)) [(1,.nm 11),(2,.nm 102),(3,.nm 103),(4,.nm 104)] [102,103,104] ?_ ?_ ?_
     ·first|exact eN|refine eM ?_
     ·simp only[Q2]
      first|exact eN|refine eM ?_
     ·rintro _ _ ⟨rfl,rfl⟩
      rw[la,P0,UB,WU]
      rw[show a.length+b.length=(AQ a b).length from (BJ a b).symm]
      have hN:=BJ a b
      have hgN:=DF va.good vb.good (by omega)
      have hji:=X9 hgN (GW va.ty vb.ty) (Dx va.str vb.str)
      have hft:=GX (va.ft64 hu) (vb.ft64 hu)
      have hfl:=UC (N:=AQ a b) fun x hx=>P6 (Dx va.str vb.str x hx) (hft x hx)
      have hap:=va.pos
      have hbp:=vb.pos
      have hof:=fun p ty ar hj hQ=>X7 va vb (p:=p) (ty:=ty) (ar:=ar) hj hQ
      have hno:=Pz va vb
      generalize BI 0 (AQ a b).length=p0 at *
      generalize DP (AQ a b)=t0 at *
      generalize FH (AQ a b)=r0 at *
      refine⟨[(11,.nm 1),(102,.nm 2),(103,.nm 3),(104,.nm 4)],.raw (.tuple #[]),[(11,.box 94 true [.p GD h,.sr 102 T3 0 p0.length,.sr 103 T3 0 t0.length,.sr 104 CE 0 r0.length]),(102,.arr 3 T3 p0),(103,.arr 3 T3 t0),(104,.arr 86 CE r0)],rfl,rfl,?_,?_,rfl,rfl,Dc ?_⟩
      ·simp only[Q2]
       first|exact eN|refine eM ?_
      ·first|exact eN|refine eM ?_
      ·repeat'(first|exact trivial|refine eS rfl ?_|refine AB ?_|refine rX [0,1,2,3,4,5,6,7,8,25] hc ?_ ?_|refine rC ?_ ?_<;>intro AA<;>try(cases AA;done))
       refine cP 4 hc ?_ ?_
       ·trivial
       ·refine rM hc (Rx h hu.ok hji (a:=0) (b:=(a.length:Int)) (by omega) (by omega) (by omega) (by omega)) [(101,.nm 11),(102,.nm 102),(103,.nm 103),(104,.nm 104)] [102,103,104] ?_ ?_ ?_
        ·first|exact eN|refine eM ?_
        ·simp only[Rw]
         first|exact eN|refine eM ?_
        ·rintro res objs' (⟨rfl,p1,t1,r1,rfl,hj1⟩|⟨rfl,⟨p1,t1,r1,rfl⟩,hno1⟩)
         ·have hQ:=LW hj1 (by omega) hft
          have hUn:=LU hu (hof p1 t1 r1 hj1 hQ)
          refine⟨[(11,.nm 101),(102,.nm 102),(103,.nm 103),(104,.nm 104)],.p .bool true,[(11,.box 94 true [.p GD h,.sr 102 T3 0 p1.length,.sr 103 T3 0 t1.length,.sr 104 CE 0 r1.length]),(102,.arr 3 T3 p1),(103,.arr 3 T3 t1),(104,.arr 86 CE r1)],rfl,rfl,?_,?_,rfl,rfl,?_⟩
          ·simp only[Rw]
           first|exact eN|refine eM ?_
          ·first|exact eN|refine eM ?_
          ·refine rL [0,1,2,3,4,5,6,7,8,25] hc ?_ ?_
           ·trivial
           ·repeat'(first|exact trivial|refine eS rfl ?_|refine AB ?_|refine rX [0,1,2,3,4,5,6,7,8,25] hc ?_ ?_|refine rC ?_ ?_<;>intro AA<;>try(cases AA;done))
            refine cP 1 hc ?_ ?_
            ·trivial
            ·refine rM hc (aN h hj1.fo hQ (by rw[hj1.lt,hj1.lp]) (by rw[hj1.la,hj1.lp]) (fun k x hx=>by rw[hj1.lp];exact(hj1.arr k x hx).1) (r:=0) (by omega) (by rw[hj1.lp];omega)) [(101,.nm 11),(102,.nm 102),(103,.nm 103),(104,.nm 104)] [11,102,103,104] ?_ ?_ ?_
             ·first|exact eN|refine eM ?_
             ·simp only[Rw]
              first|exact eN|refine eM ?_
             ·rintro _ objs' rfl
              refine⟨[],.p Ds (AO (quo p1 t1 r1) (DV p1 0)),[],rfl,rfl,?_,?_,rfl,rfl,?_⟩
              ·first|exact eN|refine eM ?_
              ·first|exact eN|refine eM ?_
              ·refine rL [0,1,2,3,4,5,6,7,8,25] hc ?_ ?_
               ·trivial
               ·repeat'(first|exact trivial|refine eS rfl ?_|refine AB ?_|refine rX [0,1,2,3,4,5,6,7,8,25] hc ?_ ?_|refine rC ?_ ?_<;>intro AA<;>try(cases AA;done))
                exact AH hc [.cell 6 25,.tmp 7] rfl (.inl rfl) (by simp) (by rw[hUn];first|exact eR|refine Aw ?_)
         ·have hUn:=hno (fun X v hX hv=>hno1 X v hX hv)
          refine⟨[(11,.nm 101),(102,.nm 102),(103,.nm 103),(104,.nm 104)],.p .bool false,[(11,.box 94 true [.p GD h,.sr 102 T3 0 p1.length,.sr 103 T3 0 t1.length,.sr 104 CE 0 r1.length]),(102,.arr 3 T3 p1),(103,.arr 3 T3 t1),(104,.arr 86 CE r1)],rfl,rfl,?_,?_,rfl,rfl,?_⟩
          ·simp only[Rw]
           first|exact eN|refine eM ?_
          ·first|exact eN|refine eM ?_
          ·refine rL [0,1,2,3,4,5,6,7,8,25] hc ?_ ?_
           ·trivial
           ·repeat'(first|exact trivial|refine eS rfl ?_|refine AB ?_|refine rX [0,1,2,3,4,5,6,7,8,25] hc ?_ ?_|refine rC ?_ ?_<;>intro AA<;>try(cases AA;done))
            exact AH hc [.cell 6 25,.tmp 7] rfl (.inl rfl) (by simp) (by rw[hUn];first|exact eR|refine Aw ?_)
end
/- Functions of grammarlabref07: Check. -/
section
attribute [local go_sem] Tj Hc
def ftR (h:AM) (a:Int×Int):Bool:=decide (a.1<(h.2.length:Int))
def tH (h:AM) (x:AE):Bool:=decide (x.1<(h.1.length:Int))&&x.2.all (ftR h)
def J2 (h:AM) (f:List AE):Int:=if (CR f).2≠0 then (CR f).2 else if f.all (tH h)=false then 2 else if (Cv f (CR f).1==0)=false then 3 else 0
def R1:Af:={ ins:=[GD,Ds],pre:=fun(_,f,_)=>Ej f,out:=fun(h,f,_)=>[.p ZO (J2 h f)] }
theorem tI:Al Tryz.prog 55 R1:=by
 refine AU Tryz.func55 (by kernel_rfl) rfl Tryz.ntmps55 (by decide) (by kernel_rfl) (AG [(73,Tj),(20,Hc)]) (AF xI (AF Tf AJ)) ?_
 rintro w0 O0 ⟨⟨ht,hf⟩,f,u⟩ hc-hs
 have hs:Ej f:=hs
 simp only[R1,AN]
 repeat'(first|exact trivial|refine eS rfl ?_|refine AB ?_|refine rX [0,1,2,3,4,5,6,7,8,9,16,22,35,40,52,56] hc ?_ ?_|refine rC ?_ ?_<;>intro AA<;>try(cases AA;done))
 ·exact hs.2
 ·have h1:J2 (ht,hf) f=(CR f).2:=by unfold J2;rw[if_pos AA]
  exact AH hc [.tmp 4] rfl (.inl rfl) (by simp) (by rw[h1];first|exact eR|refine Aw ?_)
 ·have hz:(CR f).2=0:=by simpa using AA
  have hsc:=Z9 hs.2
  have hfl:=hs.1
  have hr:J2 (ht,hf) f=if f.all (tH (ht,hf))=false then 2 else if (Cv f (CR f).1==0)=false then 3 else 0:=by unfold J2;rw[if_neg (by rw[hz];simp)]
  refine AL (ι:={i:Nat//i≤f.length∧(f.take i).all (tH (ht,hf))=true}) (fun i=>⟨[(2,.bp 2 [] 0),(3,.bp 3 [] 0),(5,.bp 5 [] 0),(7,.p (.int .i64) (i.1:Int))],[(2,.box 29 true [.p YW ht,.p ZP hf]),(3,.box 25 true [.p Fl f]),(5,.box 25 true [.p Fl (CR f).1])]⟩) (fun i=>f.length-i.1) ⟨0,by simp⟩ (AC [(2,.nm 2),(3,.nm 3),(5,.nm 5)] rfl rfl ?_ ?_) (fun i=>?_)
  ·first|exact eN|refine eM ?_
  ·first|exact eN|refine eM ?_
  ·obtain⟨i,hi,hall⟩:=i
   have hsn:=fun h:i<f.length=>I3 f (0,[]) (tH (ht,hf)) h
   simp only
   repeat'(first|exact trivial|refine eS rfl ?_|refine AB ?_|refine rX [0,1,2,3,4,5,6,7,8,9,16,22,35,40,52,56] hc ?_ ?_|refine rC ?_ ?_<;>intro AA<;>try(cases AA;done))
   ·exact AA
   ·have hif:i<f.length:=Int.ofNat_lt.1 (by assumption)
    have e:f.all (tH (ht,hf))=false:=by
     rw[List.all_eq_false]
     refine⟨_,AD f (0,[]) hif,?_⟩
     unfold tH
     rw[decide_eq_false (Int.not_lt.2 AA)]
     simp
    rw[if_pos e]at hr
    exact AH hc [.tmp 4] rfl (.inl rfl) (by simp) (by rw[hr];first|exact eR|refine Aw ?_)
   ·have hif:i<f.length:=Int.ofNat_lt.1 (by assumption)
    have hm:=AD f (0,[]) hif
    have hnd:tH (ht,hf) (f.getD i (0,[]))=(f.getD i (0,[])).2.all (ftR (ht,hf)):=by
     unfold tH
     rw[decide_eq_true (show (f.getD i (0,[])).1<(ht.length:Int) from AA)]
     rfl
    have hal:(f.getD i (0,[])).2.length≤100000:=hs.2 _ hm
    refine AL (ι:={k:Nat//k≤(f.getD i (0,[])).2.length∧((f.getD i (0,[])).2.take k).all (ftR (ht,hf))=true}) (fun k=>⟨[(2,.bp 2 [] 0),(3,.bp 3 [] 0),(5,.bp 5 [] 0),(7,.p (.int .i64) (i:Int)),(8,.bp 8 [] 0),(9,.p (.int .i64) (k.1:Int))],[(2,.box 29 true [.p YW ht,.p ZP hf]),(3,.box 25 true [.p Fl f]),(5,.box 25 true [.p Fl (CR f).1]),(8,.box 88 true [.p T3 (f.getD i (0,[])).1,.p CE (f.getD i (0,[])).2])]⟩) (fun k=>(f.getD i (0,[])).2.length-k.1) ⟨0,by simp⟩ (AC [(2,.nm 2),(3,.nm 3),(5,.nm 5),(8,.nm 8)] rfl rfl ?_ ?_) (fun k=>?_)
    ·first|exact eN|refine eM ?_
    ·first|exact eN|refine eM ?_
    ·obtain⟨k,hk,hall2⟩:=k
     have hsn2:=fun h:k<(f.getD i (0,[])).2.length=>I3 (f.getD i (0,[])).2 (0,0) (ftR (ht,hf)) h
     simp only
     repeat'(first|exact trivial|refine eS rfl ?_|refine AB ?_|refine rX [0,1,2,3,4,5,6,7,8,9,16,22,35,40,52,56] hc ?_ ?_|refine rC ?_ ?_<;>intro AA<;>try(cases AA;done))
     ·exact AA
     ·have hkL:k<(f.getD i (0,[])).2.length:=Int.ofNat_lt.1 (by assumption)
      have e:f.all (tH (ht,hf))=false:=by
       rw[List.all_eq_false]
       refine⟨_,hm,?_⟩
       rw[hnd,List.all_eq_false.2 ⟨_,AD (f.getD i (0,[])).2 (0,0) hkL,by unfold ftR;rw[decide_eq_false (Int.not_lt.2 AA)];simp⟩]
       simp
      rw[if_pos e]at hr
      exact AH hc [.tmp 4] rfl (.inl rfl) (by simp) (by rw[hr];first|exact eR|refine Aw ?_)
     ·exact eV
     ·have hkL:k<(f.getD i (0,[])).2.length:=Int.ofNat_lt.1 (by assumption)
      refine⟨⟨k+1,hkL,?_⟩,by simp only;omega,AC [(2,.nm 2),(3,.nm 3),(5,.nm 5),(8,.nm 8)] rfl rfl ?_ ?_⟩
      ·rw[hsn2 hkL,hall2]
       unfold ftR
       exact decide_eq_true AA
      ·first|exact eN|refine eM ?_
      ·first|exact eN|refine eM ?_
     ·exact eV
     ·have hkL:(f.getD i (0,[])).2.take k=(f.getD i (0,[])).2:=List.take_of_length_le (Int.ofNat_le.1 AA)
      rw[hkL]at hall2
      refine⟨⟨i+1,hif,?_⟩,by simp only;omega,AC [(2,.nm 2),(3,.nm 3),(5,.nm 5)] rfl rfl ?_ ?_⟩
      ·rw[hsn hif,hall,hnd,hall2]
       rfl
      ·first|exact eN|refine eM ?_
      ·first|exact eN|refine eM ?_
   ·exact⟨hs,hsc⟩
   ·have hif:f.take i=f:=List.take_of_length_le (Int.ofNat_le.1 (by assumption))
    rw[hif]at hall
    rw[if_neg (by rw[hall];simp),if_pos (by simpa using AA)]at hr
    exact AH hc [.tmp 4] rfl (.inl rfl) (by simp) (by rw[hr];first|exact eR|refine Aw ?_)
   ·have hif:f.take i=f:=List.take_of_length_le (Int.ofNat_le.1 (by assumption))
    rw[hif]at hall
    rw[if_neg (by rw[hall];simp),if_neg (by rw[AA];simp)]at hr
    exact AH hc [.tmp 4] rfl (.inl rfl) (by simp) (by rw[hr];first|exact eR|refine Aw ?_)
def LZ (h:AM) (f:List AE):Bool:=Gf f&&J2 h f==0
end
/- Plain: what is valid for a hierarchy is canonical. -/
section
theorem La (d:List AK):(AZ d).1.1.length≤256∧(AZ d).1.2.length≤64:=by
 unfold AZ
 split
 ·exact⟨by simp,by simp⟩
 ·rename_i hv
  have hv:(BO d).2=0:=Classical.byContradiction hv
  have h5:BN d=0:=by
   unfold BO at hv
   split at hv
   ·rename_i h;exact absurd hv h
   ·rename_i h;exact Classical.byContradiction h
  obtain⟨hz,hf64,-⟩:=CT h5
  obtain⟨-,hlen,-⟩:=Bc hz
  refine⟨?_,?_⟩
  ·show (Es _ _ _).length≤256
   rw[MA,HZ]
   exact hlen
  ·show (Ea d).1.length≤64
   unfold Ea
   rw[if_neg (by rw[h5];simp)]
   show ((Dg d).map (TT d)).length≤64
   rw[List.length_map]
   exact hf64
theorem bW {H:AM} (hb1:H.1.length≤256) (hb2:H.2.length≤64) {f:List AE} (h:LZ H f=true):AY f∧NK f∧0<f.length∧D7 H f∧Dl f=true∧f.length≤12∧∀x∈f,∀a∈x.2,0≤a.1∧a.1<(H.2.length:Int):=by
 unfold LZ at h
 rw[Bool.and_eq_true,beq_iff_eq]at h
 obtain⟨hl,hc⟩:=h
 unfold J2 at hc
 split at hc
 ·rename_i h1;exact absurd hc h1
 ·rename_i h1
  split at hc
  ·cases hc
  ·rename_i h2
   split at hc
   ·cases hc
   ·rename_i h3
    have h1:(CR f).2=0:=Classical.byContradiction h1
    have h2:f.all (tH H)=true:=by simpa using h2
    have h3:Cv f (CR f).1=0:=by simpa using h3
    have hcan:Dl f=true:=by
     unfold Dl
     simp only[Bool.and_eq_true,beq_iff_eq]
     refine⟨⟨hl,?_⟩,h1,?_⟩
     ·rw[List.all_eq_true]at h2 ⊢
      intro x hx
      have:=h2 x hx
      unfold tH at this
      rw[Bool.and_eq_true,decide_eq_true_eq,List.all_eq_true]at this
      unfold ndB
      rw[Bool.and_eq_true,decide_eq_true_eq,List.all_eq_true]
      refine⟨by omega,fun a ha=>?_⟩
      have:=this.2 a ha
      unfold ftR at this
      rw[decide_eq_true_eq]at this
      unfold ftB
      rw[decide_eq_true_eq]
      omega
     ·rw[←LK h3]
      exact Mj f
    obtain⟨g1,g2,g3,-⟩:=LM hcan
    have hz:EO f=0:=by
     unfold CR at h1
     split at h1
     ·rename_i hh;exact hh
     ·exact h1
    have hzg:KD (f.length:Int) f=0:=by
     unfold EO at hz
     split at hz
     ·cases hz
     ·split at hz
      ·cases hz
      ·exact hz
    refine⟨g1,g2,g3,fun x hx=>?_,hcan,(LD hl).1,fun x hx a ha=>?_⟩
    ·have h5:=List.all_eq_true.1 h2 x hx
     unfold tH at h5
     rw[Bool.and_eq_true,decide_eq_true_eq]at h5
     exact⟨(Js hzg x hx).1,h5.1⟩
    ·have h5:=List.all_eq_true.1 h2 x hx
     unfold tH at h5
     rw[Bool.and_eq_true,List.all_eq_true]at h5
     have h6:=h5.2 a ha
     unfold ftR at h6
     rw[decide_eq_true_eq]at h6
     exact⟨((Js hzg x hx).2 a ha).1,h6⟩
theorem fV {f:List AE} (hf:AY f):Ej f:=⟨hf.1,fun x hx=>(hf.2 x hx).1⟩
end
/- Plain: what is valid for a hierarchy, and the laws of unification. -/
section
theorem A3T {f:List AE} (hf:AY f) (hs:NK f) (h0:0<f.length) (hc:Dl f=true):RO f:=by
 have h1:=A2a hf hs h0 (fun _ _=>true)
 rwa [eY hc fun _ _ _ _=>rfl]at h1
theorem zC {h:AM} (hb1:h.1.length≤256) (hb2:h.2.length≤64) {f:List AE} (hv:LZ h f=true):VF h f∧f.length≤12:=by
 obtain⟨g1,g2,g3,g4,g5,g6,g7⟩:=bW hb1 hb2 hv
 exact⟨⟨g1,g3,g4,fun x hx=>(JA _).1 (g2 x hx).1,g7,Mk g5,A3T g1 g2 g3 g5⟩,g6⟩
theorem VF.srt {h:AM} (hu:HU h) {f:List AE} (hv:VF h f):NK f:=fun x hx=>by
 have:=P6 (hv.str x hx) (hv.ft64 hu x hx)
 exact⟨(JA _).2 (hv.str x hx),by omega⟩
theorem VF.small {h:AM} {f:List AE} (hv:VF h f):Ej f:=fV hv.good
theorem UU {h:AM} {a b:List AE} (ha:VF h a) (hb:VF h b):KI h a b=true↔∃m,MB h a b m :=
 ⟨fun g=>A3G ha.good ha.pos hb.good hb.pos g,fun⟨m,hm⟩=>oM ha.good ha.pos ha.ro hm⟩
theorem YN {h:AM} (a b:List AE):(∃U,Us h a b U∧BP h a b=(U,true))∨(BP h a b=([],false)∧∀U,¬Us h a b U):=by
 unfold BP
 by_cases H:∃U,Us h a b U
 ·left
  rw[dif_pos H]
  exact⟨_,H.choose_spec,rfl⟩
 ·right
  rw[dif_neg H]
  exact⟨rfl,fun U hU=>H ⟨U,hU⟩⟩
end
/- Plain: there is a unification if there is a structure that both subsume. -/
section
/-! What the statements ask -/
structure H11 (h:AM):Prop where
 hu:HU h
 top:NS h
 b1:h.1.length≤256
theorem RD (d:List AK):H11 (AZ d).1:=⟨⟨H9 d,Q4 d,(La d).2⟩,Q6 d,(La d).1⟩
theorem tJ {h:AM} {a b:List AE} (va:VF h a) (vb:VF h b) (ho:(BP h a b).2=true):VF h (BP h a b).1∧KI h a (BP h a b).1=true∧KI h b (BP h a b).1=true∧(BP h a b).1.length≤a.length+b.length:=by
 have hU:=Q5 ho
 exact⟨hU.vf,(UU va hU.vf).2 hU.left,(UU vb hU.vf).2 hU.right,hU.len⟩
end
/- grammarlabref11.At; of the program: unify.At, path.Get. -/
section
attribute [local go_sem] yH QB Ig QJ atS Ce xN
theorem VF.h0 {h:AM} {f:List AE} (vf:VF h f):0<h.1.length:=by
 have hp:=vf.pos
 have:=vf.ty _ (AD f (0,[]) (k:=0) (by omega))
 omega
noncomputable def KM (h:AM) (f:List AE) (p:List Int) (g:List AE):List AE×Bool:=BP h f (B0 p g)
noncomputable def A2y:Af:={ ins:=[GD,Ds,Ek,Ds],pre:=fun(h,f,p,g,_)=>HU h∧VF h f∧VF h g∧Uu h p∧List.length p≤20∧List.length f≤20∧List.length g≤20,out:=fun(h,f,p,g,_)=>[.p Ds (KM h f p g).1,.p .bool (KM h f p g).2] }
theorem A3U:Al Tryz.prog 45 A2y:=by
 refine AU Tryz.func45 (by kernel_rfl) rfl Tryz.ntmps45 (by decide) (by kernel_rfl) (AG [(71,QB),(18,Ig)]) (AF bD (AF UT AJ)) ?_
 rintro w0 O0 ⟨⟨ht,hf⟩,f,p,g,u⟩ hc-⟨hu,vf,vg,fp,lp,lf,lg⟩
 have vu:=UH vf.h0 vg fp (by omega) (by omega)
 have hl:=GA p g
 simp only[A2y,AN]
 repeat'(first|exact trivial|refine eS rfl ?_|refine AB ?_|refine rX [0,1,2,3,4,5,7,8,9] hc ?_ ?_|refine rC ?_ ?_<;>intro AA<;>try(cases AA;done))
 ·exact⟨⟨by omega,vg.good⟩,hu,vf,vu,by omega⟩
 ·exact AH hc [.cell 8 25,.tmp 9] rfl (.inl rfl) (by simp) (by unfold KM;first|exact eR|refine Aw ?_)
noncomputable def A2z:Af:={ ins:=[GD,Ds,Ek,Ds],pre:=fun(h,f,p,g,_)=>(HU h∧Uv h∧NS h)∧VF h f∧VF h g∧Uu h p∧List.length p≤20∧List.length f≤20∧List.length g≤20,out:=fun(h,f,p,g,_)=>[.p Ds (KM h f p g).1,.p .bool (KM h f p g).2] }
theorem A3V:Al Tryz.prog 46 A2z:=by
 refine AU Tryz.func46 (by kernel_rfl) rfl Tryz.ntmps46 (by decide) (by kernel_rfl) (AG [(88,yH),(19,QJ)]) (AF A3R (AF zB AJ)) ?_
 rintro w0 O0 ⟨⟨ht,hf⟩,f,p,g,u⟩ hc-⟨⟨hu,hn,htop⟩,vf,vg,fp,lp,lf,lg⟩
 have vu:=UH vf.h0 vg fp (by omega) (by omega)
 have hl:=GA p g
 have he:=zA hu hn htop vf vu (by omega)
 simp only[A2z,AN]
 repeat'(first|exact trivial|refine eS rfl ?_|refine AB ?_|refine rX [0,1,2,3,4,5,7,8,9] hc ?_ ?_|refine rC ?_ ?_<;>intro AA<;>try(cases AA;done))
 ·exact⟨⟨by omega,vg.good⟩,hu,vf,vu,by omega⟩
 ·exact AH hc [.cell 8 25,.tmp 9] rfl (.inl rfl) (by simp) (by rw[he];unfold KM;first|exact eR|refine Aw ?_)
def YO (f:List AE) (p:List Int):List AE:=if (J1 f 0 p).2=true then AO f (J1 f 0 p).1 else []
def A2A:Af:={ ins:=[Ds,Ek],pre:=fun(f,p,_)=>AY f∧NK f∧0<List.length f∧((J1 f 0 p).2=true→0≤(J1 f 0 p).1∧(J1 f 0 p).1<(List.length f:Int)),out:=fun(f,p,_)=>[.p Ds (YO f p),.p .bool (J1 f 0 p).2] }
theorem A3W:Al Tryz.prog 47 A2A:=by
 refine AU Tryz.func47 (by kernel_rfl) rfl Tryz.ntmps47 (by decide) (by kernel_rfl) (AG [(89,atS),(90,xN)]) (AF A76 (AF A3C AJ)) ?_
 rintro w0 O0 ⟨f,p,u⟩ hc-⟨hf,hs,h0,hr⟩
 simp only[A2A,AN]
 repeat'(first|exact trivial|refine eS rfl ?_|refine AB ?_|refine rX [0,1,2,4,5,6,7,15] hc ?_ ?_|refine rC ?_ ?_<;>intro AA<;>try(cases AA;done))
 ·exact⟨hf,h0⟩
 ·exact AH hc [.cell 4 25,.tmp 5] rfl (.inl rfl) (by simp) (by unfold YO;rw[AA,if_neg (by simp)];first|exact eR|refine Aw ?_)
 ·exact⟨hf,hs,hr AA⟩
 ·exact AH hc [.cell 4 25,.tmp 5] rfl (.inl rfl) (by simp) (by unfold YO;rw[AA,if_pos rfl];first|exact eR|refine Aw ?_)
end
/- Functions of grammarlablaw11: hierarchy, fits, of; graph.Atom. -/
section
attribute [local go_sem] I5 Oi TZ R1
def Cz (d:List AK):AM:=if d.length≤12∧(AZ d).2=0 then (AZ d).1 else (AZ Ha).1
def O5:Af:={ ins:=[Ec],pre:=fun _=>True,out:=fun(d,_)=>[.p GD (Cz d)] }
theorem tK:Al Tryz.prog 15 O5:=by
 refine AU Tryz.func15 (by kernel_rfl) rfl Tryz.ntmps15 (by decide) (by kernel_rfl) (AG [(52,I5),(53,Oi)]) (AF TV (AF eC AJ)) ?_
 rintro w0 O0 ⟨d,u⟩ hc - -
 simp only[O5,AN]
 repeat'(first|exact trivial|refine eS rfl ?_|refine AB ?_|refine rX [0,2,3,4,5,9,16] hc ?_ ?_|refine rC ?_ ?_<;>intro AA<;>try(cases AA;done))
 ·have h1:Cz d=(AZ d).1:=by unfold Cz;rw[if_pos ⟨by exact eV,AA⟩]
  exact AH hc [.cell 2 29] rfl (.inl rfl) (by simp) (by rw[h1];first|exact eR|refine Aw ?_)
 ·have h1:Cz d=(AZ Ha).1:=by unfold Cz;rw[if_neg (fun h=>AA h.2)]
  exact AH hc [.cell 2 29] rfl (.inl rfl) (by simp) (by rw[h1];first|exact eR|refine Aw ?_)
 ·have h1:Cz d=(AZ Ha).1:=by
   unfold Cz
   rw[if_neg]
   intro h
   have:=h.1
   exact eV
  exact AH hc [.cell 2 29] rfl (.inl rfl) (by simp) (by rw[h1];first|exact eR|refine Aw ?_)
def bX (h:AM) (l:List (List AE)):Bool:=l.all (LZ h)
def bZ:Af:={ ins:=[GD,T37],pre:=fun _=>True,out:=fun(h,l,_)=>[.p .bool (bX h l)],lend:=true }
theorem A2B:Al Tryz.prog 16 bZ:=by
 refine AU Tryz.func16 (by kernel_rfl) rfl Tryz.ntmps16 (by decide) (by kernel_rfl) (AG [(54,TZ),(55,R1)]) (AF xB (AF tI AJ)) ?_
 rintro w0 O0 ⟨⟨ht,hf⟩,l,u⟩ hc ⟨-,⟨hl,-⟩,-⟩ -
 simp only[AP]at hl
 simp only[bZ,AN]
 repeat'(first|exact trivial|refine eS rfl ?_|refine AB ?_|refine rX [0,1,2,4,6,7,8,9,10,21] hc ?_ ?_|refine rC ?_ ?_<;>intro AA<;>try(cases AA;done))
 refine AL (ι:={k:Nat//k≤l.length∧(l.take k).all (LZ (ht,hf))=true}) (fun k=>⟨[(2,.bp 2 [] 0),(7,.p T37 l),(8,.p (.int .i64) (l.length:Int)),(9,.p (.int .i64) (k.1:Int))],[(2,.box 29 true [.p YW ht,.p ZP hf])]⟩) (fun k=>l.length-k.1) ⟨0,by simp⟩ (AC [(2,.nm 2)] rfl rfl ?_ ?_) (fun k=>?_)
 ·first|exact eN|refine eM ?_
 ·first|exact eN|refine eM ?_
 ·obtain⟨k,hk,hall⟩:=k
  repeat'(first|exact trivial|refine eS rfl ?_|refine AB ?_|refine rX [0,1,2,4,6,7,8,9,10,21] hc ?_ ?_|refine rC ?_ ?_<;>intro AA<;>try(cases AA;done))
  ·exact AA
  ·intro h
   obtain⟨h1,h2⟩:=LD (f:=l.getD k []) (by simpa using h)
   exact⟨Nat.le_trans h1 (by decide),fun x hx=>Nat.le_trans (h2 x hx) (by decide)⟩
  ·have hkl:k<l.length:=Int.ofNat_lt.1 (by assumption)
   have h1:bX (ht,hf) l=false:=by
    unfold bX
    rw[List.all_eq_false]
    refine⟨_,AD l [] hkl,?_⟩
    unfold LZ
    rw[Bool.and_eq_true,beq_iff_eq]
    rintro⟨h2,h3⟩
    rcases AA with h|h
    ·rw[h2]at h;cases h
    ·exact h h3
   exact AH hc [.tmp 4] rfl (.inl rfl) (by simp) (by rw[h1];first|exact eR|refine Aw ?_)
  ·omega
  ·have hkl:k<l.length:=Int.ofNat_lt.1 (by assumption)
   refine⟨⟨k+1,hkl,?_⟩,by simp only;omega,AC [(2,.nm 2)] rfl rfl ?_ ?_⟩
   ·have h:LZ (ht,hf) (l.getD k [])=true:=by
     have h2:=AA.2
     unfold LZ
     rw[AA.1,Bool.true_and,beq_iff_eq]
     simpa using h2
    rw[Ac l [] hkl,List.all_append,hall]
    simpa using h
   ·first|exact eN|refine eM ?_
   ·first|exact eN|refine eM ?_
  ·have hk:l.take k=l:=List.take_of_length_le (Int.ofNat_le.1 AA)
   rw[hk]at hall
   have h1:bX (ht,hf) l=true:=hall
   exact AH hc [.tmp 4] rfl (.inl rfl) (by simp) (by rw[h1];first|exact eR|refine Aw ?_)
def pD:Af:={ ins:=[Fl],pre:=fun _=>True,out:=fun(l,_)=>[.p Ds l] }
theorem A2C:Al Tryz.prog 57 pD:=by
 refine AU Tryz.func57 (by kernel_rfl) rfl Tryz.ntmps57 (by decide) (by kernel_rfl) (AG []) AJ ?_
 rintro w0 O0 ⟨t,u⟩ hc - -
 simp only[pD,AN]
 repeat'(first|exact trivial|refine eS rfl ?_|refine AB ?_|refine rX [0,2] hc ?_ ?_|refine rC ?_ ?_<;>intro AA<;>try(cases AA;done))
 exact AH hc [.cell 2 25] rfl (.inl rfl) (by simp) (by first|exact eR|refine Aw ?_)
def QK:Af:={ ins:=[T3],pre:=fun _=>True,out:=fun(t,_)=>[.p Ds [(t,[])]] }
theorem b4:Al Tryz.prog 70 QK:=by
 refine AU Tryz.func70 (by kernel_rfl) rfl Tryz.ntmps70 (by decide) (by kernel_rfl) (AG []) AJ ?_
 rintro w0 O0 ⟨t,u⟩ hc - -
 simp only[QK,AN]
 repeat'(first|exact trivial|refine eS rfl ?_|refine AB ?_|refine rX [0,2] hc ?_ ?_|refine rC ?_ ?_<;>intro AA<;>try(cases AA;done))
 exact AH hc [.cell 2 25] rfl (.inl rfl) (by simp) (by first|exact eR|refine Aw ?_)
end
/- What the laws of layer 11 share. -/
section
theorem b5 (d:List AK):H11 (Cz d):=by
 unfold Cz
 split
 ·exact RD d
 ·exact RD Ha
theorem A2D {d:List AK} {l:List (List AE)} (h:bX (Cz d) l=true):∀x∈l,VF (Cz d) x∧x.length≤12:=fun x hx=>by
 have hh:=b5 d
 exact zC hh.b1 hh.hu.ft (List.all_eq_true.1 h x hx)
theorem he2 (h:AM):(h.1,h.2)=h:=rfl
theorem b6 {h:AM} (x y:List AE):Ej (BP h x y).1:=by
 rcases YN (h:=h) x y with ⟨U,hU,e⟩|⟨e,-⟩
 ·rw[e]
  exact hU.vf.small
 ·rw[e]
  exact⟨by simp,by simp⟩
theorem fW (d:List AK):Nd ((AZ d).1.1.map fun t=>t.2.1):=by
 unfold AZ
 split
 ·exact⟨.nil,fun c h=>(by cases h)⟩
 ·rename_i hv
  have hv:(BO d).2=0:=Classical.byContradiction hv
  have h5:BN d=0:=by
   unfold BO at hv
   split at hv
   ·rename_i h;exact absurd hv h
   ·rename_i h;exact Classical.byContradiction h
  obtain⟨hz,-,-⟩:=CT h5
  obtain⟨h3,hlen,-⟩:=Bc hz
  have hf:Nd (A1 (Ah d)):=X6 (WT h3)
  have e:((GS d).1.map fun t=>t.2.1)=(A0 d).map fun x=>x.2:=by
   show ((Es _ _ _).map fun t=>t.2.1)=_
   unfold Es
   rw[List.map_map]
   apply List.ext_getElem
   ·simp
   ·intro i h1 h2
    simp[List.getD_eq_getElem?_getD,show i<(A0 d).length by simpa using h1]
  show Nd ((GS d).1.map fun t=>t.2.1)
  rw[e]
  refine⟨LT (by simpa using hf.nd),fun c hc=>?_⟩
  obtain⟨x,hx,rfl⟩:=List.mem_map.1 hc
  obtain⟨b,hb,rfl⟩:=Dh.1 hx
  exact hf.nrm b hb
end
/- Functions of unify: Equate. -/
section
attribute [local go_sem] QK QB
theorem b7 (N g:List AE):DP N++BZ g g.length=DP (AQ N g):=by
 unfold BZ DP AQ
 rw[List.take_length,List.map_append,List.map_map]
 rfl
theorem fX (N g:List AE):FH N++Cw N.length g g.length=FH (AQ N g):=by
 unfold Cw FH AQ
 rw[List.take_length,List.map_append,List.map_map]
 rfl
theorem UV (p:List Int):B0 p [((0:Int),[])]=CU p:=rfl
theorem zD {h:AM} (ht:NS h) {f:List AE} {p q:List Int} (hf:VF h f) (hp:p.length≤1000) (hq:q.length≤1000) (hl:f.length≤10000) {P:List (Int×Int)} (hP:∀r∈P,r∈eqP f p q) (hno:∀X v,D7 h X→¬X3 h (sR f p q) P X v):Oz h f p q=([],false):=by
 refine WX fun X hX m1 h1 n hn1 hn2=>?_
 obtain⟨v,hv,-⟩:=YC ht hf hp hq hl hX h1 hn1 hn2
 exact hno X v hX.ty ⟨hv.rng,hv.ty,hv.arc,fun r hr=>hv.eq r (hP r hr)⟩
noncomputable def zE:Af:={ ins:=[GD,Ds,Ek,Ek],pre:=fun(h,f,p,q,_)=>HU h∧NS h∧VF h f∧Uu h p∧Uu h q∧List.length p≤1000∧List.length q≤1000∧List.length f≤1000,out:=fun(h,f,p,q,_)=>[.p Ds (Oz h f p q).1,.p .bool (Oz h f p q).2] }
attribute [local go_sem] zE
theorem A3X:Al Tryz.prog 24 zE:=by
  refine AU Tryz.func24 (by kernel_rfl) rfl Tryz.ntmps24 (by decide) (by kernel_rfl) (AG [(70,QK),(71,QB)]) (AF b4 (AF bD AJ)) ?_
  rintro w0 O0 ⟨h,f,p,q,u⟩ hc-⟨hu,ht,vf,fp,fq,hp,hq,hfl⟩
  simp only[zE,AN]
  have gA:AY ([((0:Int),[])]:List AE):=⟨by simp,by simp⟩
  have hp2:p.length≤1000:=hp
  have hq2:q.length≤1000:=hq
  have hfl2:f.length≤1000:=hfl
  have gp:=E5 hp2
  have gq:=E5 hq2
  have lpp:=B1 p
  have lpq:=B1 q
  have h10:0<h.1.length:=by
    have:=vf.ty _ (AD f (0,[]) vf.pos)
    omega
  have pos:=vf.pos
  have hNl:=YB f p q
  have j1:=BJ f (CU p)
  rw[lpp]at j1
  have gN1:=DF vf.good gp (by omega)
  have gN:=DF gN1 gq (by omega)
  have tN:=GW (GW vf.ty (Oy h10 p)) (Oy h10 q)
  have sN:=Dx (Dx vf.str (MI p)) (MI q)
  have h64:∀g:List AE,(∀x∈g,∀a∈x.2,0≤a.1∧a.1<(h.2.length:Int))→Ut g:=fun g hg x hx a ha=>by
    have h1:=hg x hx a ha
    have h2:=hu.ft
    omega
  have fN:=GX (GX (vf.ft64 hu) (h64 _ (JF fp))) (h64 _ (JF fq))
  have hji:=X9 gN tN sN
  have hfn:=UC (N:=sR f p q) fun x hx=>P6 (sN x hx) (fN x hx)
  have hof:=fun P ty ar hj hQ=>yF ht vf fp fq hp2 hq2 (by omega) (P:=P) (ty:=ty) (ar:=ar) hj hQ
  have hno:=fun P hP=>zD ht vf hp2 hq2 (by omega) (P:=P) hP
  have hpa:=UV p
  have hqa:=UV q
  repeat'(first|exact trivial|refine eS rfl ?_|refine AB ?_|refine rX [0,1,2,3,4,5,8,9,10,11,12,13,14,69] hc ?_ ?_|refine rC ?_ ?_<;>intro AA<;>try(cases AA;done))
  · exact⟨⟨hp2,gA⟩,hq2,gA⟩
  · rw[hpa,hqa]
    unfold sR at hNl hfn hof hno
    generalize hA:CU p=A at *
    generalize hB:CU q=B at *
    have eT1:BZ f f.length++BZ A A.length=DP (AQ f A):=UB f A
    have eR1:Cw 0 f f.length++Cw f.length A A.length=FH (AQ f A):=WU f A
    have eN1:BI 0 f.length++BI f.length A.length=BI 0 (AQ f A).length:=by rw[P0,BJ]
    have eT2:=b7 (AQ f A) B
    have eR2:=fX (AQ f A) B
    have eN2:BI 0 (AQ f A).length++BI (AQ f A).length B.length=BI 0 (AQ (AQ f A) B).length:=by rw[P0,←BJ]
    refine cP 3 hc ?_ ?_
    · trivial
    · refine rM hc (Tu h [] [] [] f vf.good (by simp) rfl rfl) [(1,.nm 23),(2,.nil),(3,.nil),(4,.nil)] [] ?_ ?_ ?_
      · first|exact eN|refine eM ?_
      · simp only[Q2]
        first|exact eN|refine eM ?_
      · rintro _ _ ⟨rfl,rfl⟩
        refine ⟨[(23, .nm 1), (102, .nm 2), (103, .nm 3), (104, .nm 4)], .raw (.tuple #[]),
                [(23,.box 94 true [.p GD h,.sr 102 T3 0 (BI 0 f.length).length,.sr 103 T3 0 (BZ f f.length).length,.sr 104 CE 0 (Cw 0 f f.length).length]),(102,.arr 3 T3 (BI 0 f.length)),(103,.arr 3 T3 (BZ f f.length)),(104,.arr 86 CE (Cw 0 f f.length))]
          ,rfl,rfl,?_,?_,rfl,rfl,Dc ?_⟩
        · simp only[Q2]
          first|exact eN|refine eM ?_
        · first|exact eN|refine eM ?_
        · have la:(BI 0 f.length).length=f.length:=F9 0 f.length
          have lt:(BZ f f.length).length=f.length:=by unfold BZ;rw[List.length_map,List.take_length]
          have lr:(Cw 0 f f.length).length=f.length:=by unfold Cw;rw[List.length_map,List.take_length]
          repeat'(first|exact trivial|refine eS rfl ?_|refine AB ?_|refine rX [0,1,2,3,4,5,8,9,10,11,12,13,14,69] hc ?_ ?_|refine rC ?_ ?_<;>intro AA<;>try(cases AA;done))
          refine cP 3 hc ?_ ?_
          · trivial
          · refine rM hc (Tu h (BI 0 f.length) (BZ f f.length) (Cw 0 f f.length) A gp (by omega) (by omega) (by omega)) [(1,.nm 23),(2,.nm 102),(3,.nm 103),(4,.nm 104)] [102,103,104] ?_ ?_ ?_
            · first|exact eN|refine eM ?_
            · simp only[Q2]
              first|exact eN|refine eM ?_
            · rintro _ _ ⟨rfl,rfl⟩
              rw[la,eN1,eT1,eR1]
              have la1:(BI 0 (AQ f A).length).length=(AQ f A).length:=F9 0 _
              have lt1:(DP (AQ f A)).length=(AQ f A).length:=by unfold DP;rw[List.length_map]
              have lr1:(FH (AQ f A)).length=(AQ f A).length:=by unfold FH;rw[List.length_map]
              refine⟨[(23,.nm 1),(102,.nm 2),(103,.nm 3),(104,.nm 4)],.raw (.tuple #[]),
                [(23,.box 94 true [.p GD h,.sr 102 T3 0 (BI 0 (AQ f A).length).length,.sr 103 T3 0 (DP (AQ f A)).length,.sr 104 CE 0 (FH (AQ f A)).length]),(102,.arr 3 T3 (BI 0 (AQ f A).length)),(103,.arr 3 T3 (DP (AQ f A))),(104,.arr 86 CE (FH (AQ f A)))]
                ,rfl,rfl,?_,?_,rfl,rfl,Dc ?_⟩
              · simp only[Q2]
                first|exact eN|refine eM ?_
              · first|exact eN|refine eM ?_
              · repeat'(first|exact trivial|refine eS rfl ?_|refine AB ?_|refine rX [0,1,2,3,4,5,8,9,10,11,12,13,14,69] hc ?_ ?_|refine rC ?_ ?_<;>intro AA<;>try(cases AA;done))
                refine cP 3 hc ?_ ?_
                · trivial
                · refine rM hc (Tu h (BI 0 (AQ f A).length) (DP (AQ f A)) (FH (AQ f A)) B gq (by omega) (by omega) (by omega)) [(1,.nm 23),(2,.nm 102),(3,.nm 103),(4,.nm 104)] [102,103,104] ?_ ?_ ?_
                  · first|exact eN|refine eM ?_
                  · simp only[Q2]
                    first|exact eN|refine eM ?_
                  · rintro _ _ ⟨rfl,rfl⟩
                    rw[la1,eN2,eT2,eR2]
                    have e14:(((AQ f A).length:Nat):Int)=((f.length+(p.length+1):Nat):Int):=by omega
                    refine⟨[(23,.nm 1),(102,.nm 2),(103,.nm 3),(104,.nm 4)],.raw (.tuple #[]),
                [(23, .box 94 true [.p GD h, .sr 102 T3 0 (BI 0 (AQ (AQ f A) B).length).length, .sr 103 T3 0 (DP (AQ (AQ f A) B)).length, .sr 104 CE 0 (FH (AQ (AQ f A) B)).length]), (102, .arr 3 T3 (BI 0 (AQ (AQ f A) B).length)), (103, .arr 3 T3 (DP (AQ (AQ f A) B))), (104, .arr 86 CE (FH (AQ (AQ f A) B)))]
                      ,rfl,rfl,?_,?_,rfl,rfl,Dc ?_⟩
                    · simp only[Q2]
                      first|exact eN|refine eM ?_
                    · first|exact eN|refine eM ?_
                    · clear la lt lr la1 lt1 lr1 eT1 eR1 eN1 eT2 eR2 eN2
                      rw[e14]
                      have hlA:A.length=p.length+1:=lpp
                      have hlB:B.length=q.length+1:=lpq
                      generalize AQ (AQ f A) B=NN at *
                      generalize BI 0 NN.length=p0 at *
                      generalize DP NN=t0 at *
                      generalize FH NN=r0 at *
                      have k1:0<NN.length:=by omega
                      repeat'(first|exact trivial|refine eS rfl ?_|refine AB ?_|refine rX [0,1,2,3,4,5,8,9,10,11,12,13,14,69] hc ?_ ?_|refine rC ?_ ?_<;>intro AA<;>try(cases AA;done))
                      refine evP hc 2 ?_ ?_
                      · trivial
                      · refine clG hc (Rx h hu.ok hji (a:=0) (b:=(f.length:Int)) (by omega) (by omega) (by omega) (by omega)) [(101,.nm 23),(102,.nm 102),(103,.nm 103),(104,.nm 104)] [102,103,104] ?_ ?_ ?_
                        · first|exact eN|refine eM ?_
                        · simp only[Rw]
                          first|exact eN|refine eM ?_
                        · rintro res objs' (⟨rfl,p1,t1,r1,rfl,hj1⟩|⟨rfl,⟨p1,t1,r1,rfl⟩,hno1⟩)
                          · refine⟨[(23,.nm 101),(102,.nm 102),(103,.nm 103),(104,.nm 104)],.p .bool true,
                [(23, .box 94 true [.p GD h, .sr 102 T3 0 p1.length, .sr 103 T3 0 t1.length, .sr 104 CE 0 r1.length]), (102, .arr 3 T3 p1), (103, .arr 3 T3 t1), (104, .arr 86 CE r1)]
                              ,rfl,rfl,?_,?_,rfl,rfl,?_⟩
                            · simp only[Rw]
                              first|exact eN|refine eM ?_
                            · first|exact eN|refine eM ?_
                            · refine rN 5 hc ?_ ?_
                              · trivial
                              · refine clG hc (Rx h hu.ok hj1 (a:=(f.length:Int)) (b:=((f.length+(p.length+1):Nat):Int)) (by omega) (by omega) (by omega) (by omega)) [(101,.nm 23),(102,.nm 102),(103,.nm 103),(104,.nm 104)] [102,103,104] ?_ ?_ ?_
                                · first|exact eN|refine eM ?_
                                · simp only[Rw]
                                  first|exact eN|refine eM ?_
                                · rintro res objs' (⟨rfl,p2,t2,r2,rfl,hj2⟩|⟨rfl,⟨p2,t2,r2,rfl⟩,hno2⟩)
                                  · refine⟨[(23,.nm 101),(102,.nm 102),(103,.nm 103),(104,.nm 104)],.p .bool true,
                [(23, .box 94 true [.p GD h, .sr 102 T3 0 p2.length, .sr 103 T3 0 t2.length, .sr 104 CE 0 r2.length]), (102, .arr 3 T3 p2), (103, .arr 3 T3 t2), (104, .arr 86 CE r2)]
                                      ,rfl,rfl,?_,?_,rfl,rfl,?_⟩
                                    · simp only[Rw]
                                      first|exact eN|refine eM ?_
                                    · first|exact eN|refine eM ?_
                                    · refine rN 12 hc ?_ ?_
                                      · exact eV
                                      · refine clG hc (Rx h hu.ok hj2 (a:=(f.length:Int)+(p.length:Int)) (b:=((f.length+(p.length+1):Nat):Int)+(q.length:Int)) (by omega) (by omega) (by omega) (by omega)) [(101,.nm 23),(102,.nm 102),(103,.nm 103),(104,.nm 104)] [102,103,104] ?_ ?_ ?_
                                        · first|exact eN|refine eM ?_
                                        · simp only[Rw]
                                          first|exact eN|refine eM ?_
                                        · have eP:[]++[(0,(f.length:Int))]++[((f.length:Int),((f.length+(p.length+1):Nat):Int))]++[((f.length:Int)+(p.length:Int),((f.length+(p.length+1):Nat):Int)+(q.length:Int))]=eqP f p q:=by
                                            rw[show (f.length:Int)+(p.length:Int)=((f.length+p.length:Nat):Int) by omega,show ((f.length+(p.length+1):Nat):Int)+(q.length:Int)=((f.length+(p.length+1)+q.length:Nat):Int) by omega]
                                            rfl
                                          rw[eP]
                                          rintro res objs' (⟨rfl,p3,t3,r3,rfl,hj3⟩|⟨rfl,⟨p3,t3,r3,rfl⟩,hno3⟩)
                                          · have hQ:=LW hj3 (by omega) fN
                                            have hUn:=WW hu (hof p3 t3 r3 hj3 hQ)
                                            refine⟨[(23,.nm 101),(102,.nm 102),(103,.nm 103),(104,.nm 104)],.p .bool true,
                [(23, .box 94 true [.p GD h, .sr 102 T3 0 p3.length, .sr 103 T3 0 t3.length, .sr 104 CE 0 r3.length]), (102, .arr 3 T3 p3), (103, .arr 3 T3 t3), (104, .arr 86 CE r3)]
                                              ,rfl,rfl,?_,?_,rfl,rfl,?_⟩
                                            · simp only[Rw]
                                              first|exact eN|refine eM ?_
                                            · first|exact eN|refine eM ?_
                                            · refine rL [0,1,2,3,4,5,8,9,10,11,12,13,14,69] hc ?_ ?_
                                              · trivial
                                              · repeat'(first|exact trivial|refine eS rfl ?_|refine AB ?_|refine rX [0,1,2,3,4,5,8,9,10,11,12,13,14,69] hc ?_ ?_|refine rC ?_ ?_<;>intro AA<;>try(cases AA;done))
                                                refine cP 1 hc ?_ ?_
                                                · trivial
                                                · refine rM hc (aN h hj3.fo hQ (by rw[hj3.lt,hj3.lp]) (by rw[hj3.la,hj3.lp]) (fun k x hx=>by rw[hj3.lp];exact(hj3.arr k x hx).1) (r:=0) (by omega) (by rw[hj3.lp];omega)) [(101,.nm 23),(102,.nm 102),(103,.nm 103),(104,.nm 104)] [23,102,103,104] ?_ ?_ ?_
                                                  · first|exact eN|refine eM ?_
                                                  · simp only[Rw]
                                                    first|exact eN|refine eM ?_
                                                  · rintro _ objs' rfl
                                                    refine⟨[],.p Ds (AO (quo p3 t3 r3) (DV p3 0)),[],rfl,rfl,?_,?_,rfl,rfl,?_⟩
                                                    · first|exact eN|refine eM ?_
                                                    · first|exact eN|refine eM ?_
                                                    · refine rL [0,1,2,3,4,5,8,9,10,11,12,13,14,69] hc ?_ ?_
                                                      · trivial
                                                      · repeat'(first|exact trivial|refine eS rfl ?_|refine AB ?_|refine rX [0,1,2,3,4,5,8,9,10,11,12,13,14,69] hc ?_ ?_|refine rC ?_ ?_<;>intro AA<;>try(cases AA;done))
                                                        exact AH hc [.cell 8 25,.tmp 9] rfl (.inl rfl) (by simp) (by rw[hUn];first|exact eR|refine Aw ?_)
                                          · have hUn:=hno (eqP f p q) (fun _ h=>h) hno3
                                            refine⟨[(23,.nm 101),(102,.nm 102),(103,.nm 103),(104,.nm 104)],.p .bool false,
                [(23, .box 94 true [.p GD h, .sr 102 T3 0 p3.length, .sr 103 T3 0 t3.length, .sr 104 CE 0 r3.length]), (102, .arr 3 T3 p3), (103, .arr 3 T3 t3), (104, .arr 86 CE r3)]
                                              ,rfl,rfl,?_,?_,rfl,rfl,?_⟩
                                            · simp only[Rw]
                                              first|exact eN|refine eM ?_
                                            · first|exact eN|refine eM ?_
                                            · refine rL [0,1,2,3,4,5,8,9,10,11,12,13,14,69] hc ?_ ?_
                                              · trivial
                                              · repeat'(first|exact trivial|refine eS rfl ?_|refine AB ?_|refine rX [0,1,2,3,4,5,8,9,10,11,12,13,14,69] hc ?_ ?_|refine rC ?_ ?_<;>intro AA<;>try(cases AA;done))
                                                exact AH hc [.cell 8 25,.tmp 9] rfl (.inl rfl) (by simp) (by rw[hUn];first|exact eR|refine Aw ?_)
                                  · have hUn:=hno [(0,(f.length:Int)),((f.length:Int),((f.length+(p.length+1):Nat):Int))] (by simp) hno2
                                    refine⟨[(23,.nm 101),(102,.nm 102),(103,.nm 103),(104,.nm 104)],.p .bool false,
                [(23, .box 94 true [.p GD h, .sr 102 T3 0 p2.length, .sr 103 T3 0 t2.length, .sr 104 CE 0 r2.length]), (102, .arr 3 T3 p2), (103, .arr 3 T3 t2), (104, .arr 86 CE r2)]
                                      ,rfl,rfl,?_,?_,rfl,rfl,?_⟩
                                    · simp only[Rw]
                                      first|exact eN|refine eM ?_
                                    · first|exact eN|refine eM ?_
                                    · refine rL [0,1,2,3,4,5,8,9,10,11,12,13,14,69] hc ?_ ?_
                                      · trivial
                                      · repeat'(first|exact trivial|refine eS rfl ?_|refine AB ?_|refine rX [0,1,2,3,4,5,8,9,10,11,12,13,14,69] hc ?_ ?_|refine rC ?_ ?_<;>intro AA<;>try(cases AA;done))
                                        exact AH hc [.cell 8 25,.tmp 9] rfl (.inl rfl) (by simp) (by rw[hUn];first|exact eR|refine Aw ?_)
                          · have hUn:=hno [(0,(f.length:Int))] (by simp) hno1
                            refine⟨[(23,.nm 101),(102,.nm 102),(103,.nm 103),(104,.nm 104)],.p .bool false,
                [(23, .box 94 true [.p GD h, .sr 102 T3 0 p1.length, .sr 103 T3 0 t1.length, .sr 104 CE 0 r1.length]), (102, .arr 3 T3 p1), (103, .arr 3 T3 t1), (104, .arr 86 CE r1)]
                              ,rfl,rfl,?_,?_,rfl,rfl,?_⟩
                            · simp only[Rw]
                              first|exact eN|refine eM ?_
                            · first|exact eN|refine eM ?_
                            · refine rL [0,1,2,3,4,5,8,9,10,11,12,13,14,69] hc ?_ ?_
                              · trivial
                              · repeat'(first|exact trivial|refine eS rfl ?_|refine AB ?_|refine rX [0,1,2,3,4,5,8,9,10,11,12,13,14,69] hc ?_ ?_|refine rC ?_ ?_<;>intro AA<;>try(cases AA;done))
                                exact AH hc [.cell 8 25,.tmp 9] rfl (.inl rfl) (by simp) (by rw[hUn];first|exact eR|refine Aw ?_)
end
/- Plain: unifications that can be computed. -/
section
def CV:Nat→List Int→Int→Int
 | 0,_,n=>n
 | k+1,p,n=>if DH p n=n then n else CV k p (DH p n)
def UW (p:List Int) (n:Int):Bool:=DH p (CV 100 p n)==CV 100 p n
theorem b8 {p:List Int}:∀ {k:Nat} {n:Int},DH p (CV k p n)=CV k p n→Rt p n (CV k p n)
 | 0,n,h=>.base h
 | k+1,n,h=>by
  unfold CV at h ⊢
  split
  ·rename_i e
   exact .base e
  ·rename_i e
   rw[if_neg e]at h
   exact .step e (b8 h)
theorem UX {p:List Int} {n:Int} (h:UW p n=true):Rt p n (CV 100 p n):=b8 (by unfold UW at h;simpa using h)
abbrev zF:=List Int×List Int×List (List (Int×Int))
def Wh (h:AM):Nat→zF→List (Int×Int)→Option (Option zF)
 | 0,_,_=>none
 | k+1,s,W=>match W.getLast? with
  | none=>some (some s)
  | some w =>
   if (UW s.1 w.1&&UW s.1 w.2)=true then
    if CV 100 s.1 w.1=CV 100 s.1 w.2 then Wh h k s W.dropLast
    else if (CB h (s.2.1.getD (CV 100 s.1 w.1).toNat 0) (s.2.1.getD (CV 100 s.1 w.2).toNat 0)).2=false then some none
    else Wh h k (s.1.set (CV 100 s.1 w.2).toNat (CV 100 s.1 w.1),s.2.1.set (CV 100 s.1 w.1).toNat (CB h (s.2.1.getD (CV 100 s.1 w.1).toNat 0) (s.2.1.getD (CV 100 s.1 w.2).toNat 0)).1,s.2.2.set (CV 100 s.1 w.1).toNat (Bf (s.2.2.getD (CV 100 s.1 w.1).toNat []) (s.2.2.getD (CV 100 s.1 w.2).toNat [])).1)
     (W.dropLast++(Bf (s.2.2.getD (CV 100 s.1 w.1).toNat []) (s.2.2.getD (CV 100 s.1 w.2).toNat [])).2)
   else none
theorem A2E {α:Type} {W:List α} {w:α} (h:W.getLast?=some w):W=W.dropLast++[w]:=by
 obtain⟨hne,e⟩:=List.getLast?_eq_some_iff.1 h
 rw[e]
 simp
theorem UY {h:AM} (hk:WB h) {N:List AE} {P:List (Int×Int)}:∀(k:Nat) (s:zF) (W:List (Int×Int)),JI h N P s.1 s.2.1 s.2.2 W →
  (∀t,Wh h k s W=some (some t)→JI h N P t.1 t.2.1 t.2.2 [])∧(Wh h k s W=some none→∀X v,D7 h X→¬X3 h N P X v)
 | 0,s,W,hj=>⟨fun t e=>(by cases e),fun e=>(by cases e)⟩
 | k+1,s,W,hj=>by
  unfold Wh
  cases hw:W.getLast? with
  | none =>
   have:W=[]:=List.getLast?_eq_none_iff.1 hw
   subst this
   refine⟨fun t e=>?_,fun e=>(by cases e)⟩
   have e:s=t:=by simpa using e
   rw[←e]
   exact hj
  | some w =>
   simp only
   have hW:=A2E hw
   obtain⟨x,y⟩:=w
   rw[hW]at hj
   by_cases hr:(UW s.1 x&&UW s.1 y)=true
   ·rw[if_pos hr]
    rw[Bool.and_eq_true]at hr
    have ha:=UX hr.1
    have hb:=UX hr.2
    by_cases he:CV 100 s.1 x=CV 100 s.1 y
    ·rw[if_pos he]
     rw[←he]at hb
     exact UY hk k s _ (oO hj ha hb)
    ·rw[if_neg he]
     by_cases hm:(CB h (s.2.1.getD (CV 100 s.1 x).toNat 0) (s.2.1.getD (CV 100 s.1 y).toNat 0)).2=false
     ·rw[if_pos hm]
      refine⟨fun t e=>(by cases e),fun _ X v hX hv=>?_⟩
      have:=(X4 hk hj ha hb hX hv).2.1
      rw[hm]at this
      cases this
     ·rw[if_neg hm]
      have hm:(CB h (s.2.1.getD (CV 100 s.1 x).toNat 0) (s.2.1.getD (CV 100 s.1 y).toNat 0)).2=true:=by simpa using hm
      exact UY hk k _ _ (aJ hk hj ha hb he hm)
   ·rw[if_neg hr]
    exact⟨fun t e=>(by cases e),fun e=>(by cases e)⟩
def QL (h:AM):zF→List (Int×Int)→Option (Option zF)
 | s,[]=>some (some s)
 | s,q :: P=>match Wh h 1000 s [q] with
  | some (some t)=>QL h t P
  | r=>r
theorem Wi {h:AM} (hk:WB h) {N:List AE}:∀(R P:List (Int×Int)) (s:zF),(∀q∈R,(0≤q.1∧q.1<(N.length:Int))∧(0≤q.2∧q.2<(N.length:Int)))→JI h N P s.1 s.2.1 s.2.2 [] →
  (∀t,QL h s R=some (some t)→JI h N (P++R) t.1 t.2.1 t.2.2 [])∧(QL h s R=some none→∀X v,D7 h X→¬X3 h N (P++R) X v)
 | [],P,s,hr,hj=>⟨fun t e=>by
   have e:s=t:=by simpa[QL] using e
   rw[←e,List.append_nil]
   exact hj,fun e=>(by cases e)⟩
 | q :: R,P,s,hr,hj=>by
  obtain⟨a,b⟩:=q
  have hq:=hr (a,b) (by simp)
  obtain⟨k1,k2⟩:=UY hk 1000 s [(a,b)] (aL hj hq.1 hq.2)
  have hP:P++(a,b) :: R=P++[(a,b)]++R:=by simp
  unfold QL
  rw[hP]
  split
  ·rename_i t ht
   exact Wi hk R (P++[(a,b)]) t (fun q hq=>hr q (by simp[hq])) (k1 t ht)
  ·rename_i r hno
   refine⟨fun t e=>absurd e (hno t),fun e X v hX hv=>k2 e X v hX ⟨hv.rng,hv.ty,hv.arc,fun q hq=>hv.eq q (List.mem_append_left _ hq)⟩⟩
def A2F (s:zF):List AE:=(List.range s.1.length).map fun k=>(s.2.1.getD k 0,(s.2.2.getD k []).map fun a=>(a.1,CV 100 s.1 a.2))
def YP (s:zF):Bool:=(List.range s.1.length).all fun(k:Nat)=>UW s.1 (k:Int)
theorem Wj {h:AM} {N:List AE} {P:List (Int×Int)} {s:zF} (hj:JI h N P s.1 s.2.1 s.2.2 []) (hr:YP s=true) {x:Int} (x0:0≤x) (x1:x<(N.length:Int)):CV 100 s.1 x=DV s.1 x:=by
 unfold YP at hr
 rw[List.all_eq_true]at hr
 have hl:=hj.lp
 have:=hr x.toNat (List.mem_range.2 (by omega))
 rw[Int.toNat_of_nonneg x0]at this
 rw[Tv (UX this)]
theorem A2G {h:AM} {N:List AE} {P:List (Int×Int)} {s:zF} (hj:JI h N P s.1 s.2.1 s.2.2 []) (hr:YP s=true):A2F s=quo s.1 s.2.1 s.2.2:=by
 unfold A2F quo
 refine List.map_congr_left fun k _=>?_
 congr 1
 refine List.map_congr_left fun a ha=>?_
 have:=(hj.arr k a ha).1
 rw[Wj hj hr this.1 this.2]
def zG (N:List AE):zF:=(BI 0 N.length,DP N,FH N)
def zH (h:AM) (N:List AE) (P:List (Int×Int)):Option (List AE×Bool):=match QL h (zG N) P with
 | some (some s)=>if YP s=true then some (AO (A2F s) (CV 100 s.1 0),true) else none
 | some none=>some ([],false)
 | none=>none
theorem pE {h:AM} (hk:WB h) {N:List AE} (hg:AY N) (ht:D7 h N) (hs:∀x∈N,KN x.2) (h0:0<N.length) {P:List (Int×Int)} (hP:∀q∈P,(0≤q.1∧q.1<(N.length:Int))∧(0≤q.2∧q.2<(N.length:Int))) :
  (∀U,zH h N P=some (U,true)→∃p ty ar,JI h N P p ty ar []∧U=AO (quo p ty ar) (DV p 0))∧(∀U,zH h N P=some (U,false)→U=[]∧∀X v,D7 h X→¬X3 h N P X v):=by
 obtain⟨k1,k2⟩:=Wi hk P [] (zG N) hP (X9 hg ht hs)
 rw[List.nil_append]at k1 k2
 unfold zH
 split
 ·rename_i s hs2
  have hj:=k1 s hs2
  split
  ·rename_i hr
   refine⟨fun U e=>⟨s.1,s.2.1,s.2.2,hj,?_⟩,fun U e=>(by cases e)⟩
   have e:AO (A2F s) (CV 100 s.1 0)=U:=by simpa using e
   rw[←e,A2G hj hr,Wj hj hr (by omega) (by omega)]
  ·exact⟨fun U e=>(by cases e),fun U e=>(by cases e)⟩
 ·rename_i hs2
  refine⟨fun U e=>(by cases e),fun U e=>⟨?_,k2 hs2⟩⟩
  have e:[]=U:=by simpa using e
  exact e.symm
 ·exact⟨fun U e=>(by cases e),fun U e=>(by cases e)⟩
def A3Y (h:AM) (a b:List AE):Option (List AE×Bool):=zH h (AQ a b) [(0,(a.length:Int))]
theorem QM {h:AM} (hu:HU h) {a b:List AE} (va:VF h a) (vb:VF h b) (hl:a.length+b.length≤10000) {r:List AE×Bool} (hr:A3Y h a b=some r):BP h a b=r:=by
 have hN:=BJ a b
 have hap:=va.pos
 have hbp:=vb.pos
 obtain⟨U,z⟩:=r
 have hgN:=DF va.good vb.good (by omega)
 obtain⟨k1,k2⟩:=pE hu.ok (N:=AQ a b) hgN (GW va.ty vb.ty) (Dx va.str vb.str) (by omega) (P:=[(0,(a.length:Int))]) (fun q hq=>by
  have e:q=(0,(a.length:Int)):=by simpa using hq
  subst e
  simp only
  omega)
 cases z with
 | true =>
  obtain⟨p,ty,ar,hj,rfl⟩:=k1 U hr
  exact LU hu (X7 va vb hj (LW hj (by omega) (GX (va.ft64 hu) (vb.ft64 hu))))
 | false =>
  obtain⟨rfl,hno⟩:=k2 U hr
  exact Pz va vb hno
def A7H (h:AM) (f:List AE) (p q:List Int):Option (List AE×Bool):=zH h (sR f p q) (eqP f p q)
theorem YQ {h:AM} (hu:HU h) (ht:NS h) {f:List AE} {p q:List Int} (vf:VF h f) (fp:Uu h p) (fq:Uu h q) (hp:p.length≤1000) (hq:q.length≤1000) (hl:f.length≤1000) {r:List AE×Bool} (hr:A7H h f p q=some r):Oz h f p q=r:=by
 have hN:=YB f p q
 have hfp:=vf.pos
 obtain⟨U,z⟩:=r
 have j1:=BJ f (CU p)
 have lpp:=B1 p
 have lpq:=B1 q
 have gN1:=DF vf.good (E5 hp) (by omega)
 have gN:=DF gN1 (E5 hq) (by omega)
 have h10:0<h.1.length:=by
  have:=vf.ty _ (AD f (0,[]) vf.pos)
  omega
 have tN:=GW (GW vf.ty (Oy h10 p)) (Oy h10 q)
 have sN:=Dx (Dx vf.str (MI p)) (MI q)
 have h64:∀g:List AE,(∀x∈g,∀a∈x.2,0≤a.1∧a.1<(h.2.length:Int))→Ut g:=fun g hg x hx a ha=>by
  have h1:=hg x hx a ha
  have h2:=hu.ft
  omega
 have fN:=GX (GX (vf.ft64 hu) (h64 _ (JF fp))) (h64 _ (JF fq))
 obtain⟨k1,k2⟩:=pE hu.ok (N:=sR f p q) gN tN sN (by omega) (P:=eqP f p q) (fun r hr=>by
  simp only[List.mem_cons,List.not_mem_nil,or_false]at hr
  rcases hr with rfl|rfl|rfl<;>simp only<;>omega)
 cases z with
 | true =>
  obtain⟨p',ty,ar,hj,rfl⟩:=k1 U hr
  exact WW hu (yF ht vf fp fq hp hq (by omega) hj (LW hj (by omega) fN))
 | false =>
  obtain⟨rfl,hno⟩:=k2 U hr
  refine WX fun X hX m1 h1 n hn1 hn2=>?_
  obtain⟨v,hv,-⟩:=YC ht vf hp hq (by omega) hX h1 hn1 hn2
  exact hno X v hX.ty hv
/-! What is valid can be computed -/
def roB (f:List AE):Bool:=(List.range f.length).all fun(i:Nat)=>i==0||(List.range i).any fun j=>(f.getD j (0,[])).2.any fun a=>a.2==(i:Int)
def A2H:List (Int×Int)→Bool
 | a :: b :: l=>decide (a.1<b.1)&&A2H (b :: l)
 | _=>true
theorem pF:∀ {l:List (Int×Int)},A2H l=true→KN l
 | [],_=>.nil
 | [a],_=>List.pairwise_singleton _ _
 | a :: b :: l,h=>by
  simp only[A2H,Bool.and_eq_true,decide_eq_true_eq]at h
  have ih:=pF h.2
  refine List.pairwise_cons.2 ⟨fun c hc=>?_,ih⟩
  rcases List.mem_cons.1 hc with rfl|hc
  ·exact h.1
  ·have:=(List.pairwise_cons.1 ih).1 c hc
   omega
def vfB (h:AM) (f:List AE):Bool :=
 decide (0<f.length)&&decide (f.length≤100)&&roB f&&(AO f 0==f)&&f.all fun x=>decide (0≤x.1)&&decide (x.1<(h.1.length:Int))&&decide (x.2.length≤100)&&A2H x.2&&x.2.all fun a=>decide (0≤a.1)&&decide (a.1<(h.2.length:Int))&&decide (0≤a.2)&&decide (a.2<(f.length:Int))
theorem QN {h:AM} {f:List AE} (hb:vfB h f=true):VF h f:=by
 unfold vfB at hb
 simp only[Bool.and_eq_true,decide_eq_true_eq,List.all_eq_true,beq_iff_eq]at hb
 obtain⟨⟨⟨⟨h1,h2⟩,h3⟩,h4⟩,h5⟩:=hb
 refine⟨⟨by omega,fun x hx=>⟨by have:=(h5 x hx).1.1.2;omega,fun a ha=>?_⟩⟩,h1,fun x hx=>?_,fun x hx=>?_,fun x hx a ha=>?_,h4,fun i i0 i1=>?_⟩
 ·have:=(h5 x hx).2 a ha
  exact⟨this.1.2,this.2⟩
 ·exact(h5 x hx).1.1.1
 ·exact pF (h5 x hx).1.2
 ·exact((h5 x hx).2 a ha).1.1
 ·unfold roB at h3
  rw[List.all_eq_true]at h3
  have:=h3 i.toNat (List.mem_range.2 (by omega))
  rw[Bool.or_eq_true,beq_iff_eq]at this
  rcases this with e|e
  ·omega
  ·obtain⟨j,hj,e⟩:=List.any_eq_true.1 e
   obtain⟨a,ha,e⟩:=List.any_eq_true.1 e
   have hj:=List.mem_range.1 hj
   refine⟨(j:Int),by omega,by omega,a,by rw[AR,Int.toNat_natCast];exact ha,?_⟩
   have e:a.2=(i.toNat:Int):=by simpa using e
   omega
end
/- Functions of unify: All; of grammarlablaw11: node, small. -/
section
attribute [local go_sem] Ig QK I5 cs1 cs3
noncomputable def Lb (h:AM):List AE→List (List AE)→List AE×Bool
 | f,[]=>(f,true)
 | f,x :: l=>if (BP h f x).2=true then Lb h (BP h f x).1 l else ([],false)
noncomputable def A2I (h:AM):List (List AE)→List AE×Bool
 | []=>([((0:Int),[])],true)
 | f :: l=>Lb h f l
noncomputable def A2J:Af:={ ins:=[GD,T37],pre:=fun(h,l,_)=>HU h∧List.length l≤50∧∀x∈(l:List (List AE)),VF h x∧x.length≤100,out:=fun(h,l,_)=>[.p Ds (A2I h l).1,.p .bool (A2I h l).2] }
theorem A3Z:Al Tryz.prog 21 A2J:=by
 refine AU Tryz.func21 (by kernel_rfl) rfl Tryz.ntmps21 (by decide) (by kernel_rfl) (AG [(70,QK),(18,Ig)]) (AF b4 (AF UT AJ)) ?_
 rintro w0 O0 ⟨h,l,u⟩ hc-⟨hu,hl,hx⟩
 simp only[A2J,AN]
 repeat'(first|exact trivial|refine eS rfl ?_|refine AB ?_|refine rX [0,1,2,4,5,6,8,9,10,13,19,20,21,22,33] hc ?_ ?_|refine rC ?_ ?_<;>intro AA<;>try(cases AA;done))
 ·have hl0:l=[]:=List.eq_nil_of_length_eq_zero (by omega)
  subst hl0
  exact AH hc [.cell 4 25,.tmp 5] rfl (.inl rfl) (by simp) (by first|exact eR|refine Aw ?_;exact⟨rfl,rfl⟩)
 ·have h1:(List.length l:Int)≠0:=AA
  have h2:0≤(List.length l:Int):=Int.natCast_nonneg _
  dsimp only[Ty.den]at *
  omega
 ·have h1:(List.length l:Int)≠0:=AA
  have h2:0≤(List.length l:Int):=Int.natCast_nonneg _
  dsimp only[Ty.den]at *
  omega
 ·obtain⟨g0,r,rfl⟩:∃g r,l=g :: r:=by
   cases l with
   | nil=>exact absurd rfl AA
   | cons g r=>exact⟨g,r,rfl⟩
  have e0:(g0 :: r).getD 0 []=g0:=rfl
  have hg0:=hx g0 (by simp)
  have hr:∀x∈r,VF h x∧x.length≤100:=fun x hx2=>hx x (by simp[hx2])
  have hrl:r.length≤49:=by
   have h:(g0 :: r).length≤50:=hl
   rw[List.length_cons]at h
   omega
  have hall:A2I h (g0 :: r)=Lb h g0 r:=rfl
  rw[hall,e0]
  simp only[List.drop_succ_cons,List.drop_zero]
  refine AL (ι:={s:Nat×List AE//s.1≤r.length∧(VF h s.2∧s.2.length≤100*(s.1+1))∧Lb h g0 r=Lb h s.2 (r.drop s.1)}) (fun s=>⟨[(2,.bp 2 [] 0),(4,.bp 4 [] 0),(6,.bp 6 [] 0),(19,.p T37 r),(20,.p (.int .i64) (r.length:Int)),(21,.p (.int .i64) (s.1.1:Int))],[(2,.box 29 true [.p YW h.1,.p ZP h.2]),(4,.box 25 true [.raw (.slice none 0 0)]),(6,.box 25 true [.p Fl s.1.2])]⟩) (fun s=>r.length-s.1.1) ⟨(0,g0),Nat.zero_le _,⟨hg0.1,by simp only;omega⟩,rfl⟩ (AC [(2,.nm 2),(4,.nm 4),(6,.nm 6)] rfl rfl ?_ ?_) (fun s=>?_)
  ·first|exact eN|refine eM ?_
  ·first|exact eN|refine eM ?_
  ·obtain⟨⟨k,g⟩,hk,⟨hg,hgl⟩,he⟩:=s
   simp only at hk hg hgl he ⊢
   have hrd:=fun h:k<r.length=>hr _ (AD r [] h)
   repeat'(first|exact trivial|refine eS rfl ?_|refine AB ?_|refine rX [0,1,2,4,5,6,8,9,10,13,19,20,21,22,33] hc ?_ ?_|refine rC ?_ ?_<;>intro AA<;>try(cases AA;done))
   ·exact AA
   ·have h1:=hrd (Int.ofNat_lt.1 (by assumption))
    exact⟨hu,hg,h1.1,by omega⟩
   ·have hk2:k<r.length:=Int.ofNat_lt.1 (by assumption)
    have h1:Lb h g0 r=([],false):=by
     rw[he,List.drop_eq_getElem_cons hk2]
     simp only[Lb]
     have e:r.getD k []=r[k]:=by simp[List.getD_eq_getElem?_getD,hk2]
     rw[←e]
     have AA:(BP h g (r.getD k [])).2=false:=AA
     rw[if_neg (by rw[AA];simp)]
    exact AH hc [.cell 4 25,.tmp 5] rfl (.inl rfl) (by simp) (by rw[h1];first|exact eR|refine Aw ?_)
   ·omega
   ·have hk2:k<r.length:=Int.ofNat_lt.1 (by assumption)
    have AA:(BP h g (r.getD k [])).2=true:=AA
    have hU:=Q5 AA
    have h1:=hrd hk2
    have hul:=hU.len
    refine⟨⟨(k+1,(BP h g (r.getD k [])).1),hk2,⟨hU.vf,by simp only;omega⟩,?_⟩,by simp only;omega,AC [(2,.nm 2),(4,.nm 4),(6,.nm 6)] rfl rfl ?_ ?_⟩
    ·rw[he,List.drop_eq_getElem_cons hk2]
     simp only[Lb]
     have e:r.getD k []=r[k]:=by simp[List.getD_eq_getElem?_getD,hk2]
     rw[←e,if_pos AA]
    ·first|exact eN|refine eM ?_
    ·first|exact eN|refine eM ?_
   ·have hk2:r.drop k=[]:=List.drop_eq_nil_of_le (Int.ofNat_le.1 AA)
    rw[hk2]at he
    rw[he]
    exact AH hc [.cell 4 25,.tmp 5] rfl (.inl rfl) (by simp) (by first|exact eR|refine Aw ?_;exact⟨rfl,rfl⟩)
def Fk (l:List Int) (n:Nat):List (Int×Int):=(List.range n).map fun i=>(l.getD (2*i) 0,l.getD (2*i+1) 0)
theorem b9 (l:List Int) (n:Nat):Fk l (n+1)=Fk l n++[(l.getD (2*n) 0,l.getD (2*n+1) 0)]:=by simp[Fk,List.range_succ]
theorem fY (l:List Int) (n:Nat):(Fk l n).length=n:=by simp[Fk]
def R2:Af:={ ins:=[T3,Ek],pre:=fun(_,l,_)=>List.length l≤1000,out:=fun(t,l,_)=>[.p J9 (t,Fk l (List.length l / 2))] }
theorem tL:Al Tryz.prog 58 R2:=by
 refine AU Tryz.func58 (by kernel_rfl) rfl Tryz.ntmps58 (by decide) (by kernel_rfl) (AG []) AJ ?_
 rintro w0 O0 ⟨t,l,u⟩ hc-hl
 simp only[R2,AN]
 repeat'(first|exact trivial|refine eS rfl ?_|refine AB ?_|refine rX [0,1,4,5,6,13] hc ?_ ?_|refine rC ?_ ?_<;>intro AA<;>try(cases AA;done))
 have hl:l.length≤1000:=hl
 refine AL (ι:={k:Nat//k≤l.length / 2}) (fun k=>⟨[(1,.p Ek l),(4,.bp 4 [] 0),(5,.bp 5 [] 0),(6,.p (.int .i64) (2*(k.1:Int)))],[(4,.box 88 true [.p T3 (0:Int),.raw (.slice none 0 0)]),(5,.box 88 true [.p T3 t,.sr 29 Aq 0 (Fk l k.1).length]),(29,.arr 108 Aq (Fk l k.1))]⟩) (fun k=>l.length / 2-k.1) ⟨0,Nat.zero_le _⟩ (AC [(4,.nm 4),(5,.nm 5),(29,.nil)] rfl rfl ?_ ?_) (fun k=>?_)
 ·first|exact eN|refine eM ?_
  exact⟨rfl,rfl⟩
 ·first|exact eN|refine eM ?_
  rfl
 ·obtain⟨k,hk⟩:=k
  have hpl:=fY l k
  have hps:=b9 l k
  simp only
  repeat'(first|exact trivial|refine eS rfl ?_|refine AB ?_|refine rX [0,1,4,5,6,13] hc ?_ ?_|refine rC ?_ ?_<;>intro AA<;>try(cases AA;done))
  ·omega
  ·rw[hpl]
   simp only[AP]
   exact eV
  ·omega
  ·refine⟨⟨k+1,by omega⟩,by simp only;omega,AC [(4,.nm 4),(5,.nm 5),(29,.nm 29)] rfl rfl ?_ ?_⟩
   ·simp only[hps]
    first|exact eN|refine eM ?_
    rw[show (2*(k:Int)).toNat=2*k by omega,show (2*(k:Int)+1).toNat=2*k+1 by omega]
   ·first|exact eN|refine eM ?_
    show (2*(k:Int)+2)=2*((k:Int)+1)
    omega
  ·have hke:k=l.length / 2:=by omega
   subst hke
   exact AH hc [.cell 4 88] rfl (.inl rfl) (by simp) (by first|exact eR|refine Aw ?_)
def CL:List AK:=[(ByteArray.mk #[116,111,112],[],[(ByteArray.mk #[70],ByteArray.mk #[116,111,112]),(ByteArray.mk #[71],ByteArray.mk #[116,111,112])]),(ByteArray.mk #[120],[ByteArray.mk #[116,111,112]],[]),(ByteArray.mk #[121],[ByteArray.mk #[116,111,112]],[])]
def O6:Af:={ ins:=[],pre:=fun _=>True,out:=fun _=>[.p GD (AZ CL).1] }
theorem fZ:Al Tryz.prog 56 O6:=by
 refine AU Tryz.func56 (by kernel_rfl) rfl Tryz.ntmps56 (by decide) (by kernel_rfl) (AG [(52,I5)] [6,8,10,12]) (AF TV AJ) ?_
 rintro w0 O0 u hc - -
 simp only[O6,AN]
 repeat'(first|exact trivial|refine eS rfl ?_|refine AB ?_|refine rX [0,1] hc ?_ ?_|refine rC ?_ ?_<;>intro AA<;>try(cases AA;done))
 exact AH hc [.cell 0 29] rfl (.inl rfl) (by simp) (by unfold CL;first|exact eR|refine Aw ?_)
end
/- Functions of grammarlablaw11: exampleHolds. -/
section
attribute [local go_sem] O6 R2 pD Ig Z8 zE A2J Hc
abbrev sH:AM:=(AZ CL).1
theorem A77:sH.2.length≤64:=by decide +kernel
theorem UZ:HU sH:=⟨H9 CL,Q4 CL,A77⟩
theorem YR:NS sH:=Q6 CL
def A78:List AE:=[(0,[(0,1),(1,2)]),(1,[]),(0,[])]
def A79:List AE:=[(0,[(0,1),(1,2)]),(1,[]),(2,[])]
def exB:List AE:=[(0,[(0,1),(1,1)]),(0,[])]
def A7a:List AE:=[(0,[(0,1)]),(0,[(0,2)]),(1,[])]
def A7b:List AE:=[(0,[(0,0)])]
def exT:List AE:=[(0,[])]
theorem zI:VF sH A78:=QN (by decide +kernel)
theorem zJ:VF sH A79:=QN (by decide +kernel)
theorem zK:VF sH exB:=QN (by decide +kernel)
theorem zL:VF sH A7a:=QN (by decide +kernel)
theorem zM:VF sH A7b:=QN (by decide +kernel)
theorem pG:VF sH exT:=QN (by decide +kernel)
theorem A7J:BP sH A78 exB=([(0,[(0,1),(1,1)]),(1,[])],true):=QM UZ zI zK (by decide) (by decide +kernel)
theorem A7K:BP sH A79 exB=([],false):=QM UZ zJ zK (by decide) (by decide +kernel)
theorem A7L:BP sH A7a A7b=([(1,[(0,0)])],true):=QM UZ zL zM (by decide) (by decide +kernel)
theorem YS {p:List Int} (h:p.all (fun x=>decide (0≤x)&&decide (x<(sH.2.length:Int)))=true):Uu sH p:=fun e he=>by
 have:=List.all_eq_true.1 h e he
 rw[Bool.and_eq_true,decide_eq_true_eq,decide_eq_true_eq]at this
 exact this
theorem A7c:Uu sH [0,0]:=YS (by decide +kernel)
theorem A2K:Uu sH [0]:=YS (by decide +kernel)
theorem A7d:Uu sH [1]:=YS (by decide +kernel)
theorem A7e:Uu sH []:=YS (by decide +kernel)
theorem A7M:Oz sH exT [0,0] [0]=([(0,[(0,1)]),(0,[(0,1)])],true):=YQ UZ YR pG A7c A2K (by decide) (by decide) (by decide) (by decide +kernel)
theorem A7N:Oz sH exT [0] [1]=([(0,[(0,1),(1,1)]),(0,[])],true):=YQ UZ YR pG A2K A7d (by decide) (by decide) (by decide) (by decide +kernel)
theorem A7O:Oz sH exT [0] []=([(0,[(0,0)])],true):=YQ UZ YR pG A2K A7e (by decide) (by decide) (by decide) (by decide +kernel)
def cA:Af:={ ins:=[],pre:=fun _=>True,out:=fun _=>[.p .bool true] }
theorem A2L:Al Tryz.prog 17 cA:=by
 refine AU Tryz.func17 (by kernel_rfl) rfl Tryz.ntmps17 (by decide) (by kernel_rfl) (AG [(56,O6),(58,R2),(57,pD),(18,Ig),(59,Z8),(24,zE),(21,A2J),(20,Hc)] [19,22,26,30,38,42,50,52,55,57,59,68,69,76,77,84,103,106,112,114,132,134,136,147,149]) (AF fZ (AF tL (AF A2C (AF UT (AF A25 (AF A3X (AF A3Z (AF Tf AJ)))))))) ?_
 rintro w0 O0 u hc - -
 simp only[cA,AN]
 repeat'(first|exact trivial|refine eS rfl ?_|refine AB ?_|refine rP [0,1,2,3,4,6,7,8,9,10,11,12,13,14,15,16,17] hc ?_ ?_|fail)
 have hu:HU (AZ CL).1:=UZ
 have ht:NS (AZ CL).1:=YR
 have q1:BP (AZ CL).1 [(0,[(0,1),(1,2)]),(1,[]),(0,[])] [(0,[(0,1),(1,1)]),(0,[])]=([(0,[(0,1),(1,1)]),(1,[])],true):=A7J
 have q2:BP (AZ CL).1 [(0,[(0,1),(1,2)]),(1,[]),(2,[])] [(0,[(0,1),(1,1)]),(0,[])]=([],false):=A7K
 have q3:BP (AZ CL).1 [(0,[(0,1)]),(0,[(0,2)]),(1,[])] [(0,[(0,0)])]=([(1,[(0,0)])],true):=A7L
 have r1:Oz (AZ CL).1 [(0,[])] [0,0] [0]=([(0,[(0,1)]),(0,[(0,1)])],true):=A7M
 have r2:Oz (AZ CL).1 [(0,[])] [0] [1]=([(0,[(0,1),(1,1)]),(0,[])],true):=A7N
 have r3:Oz (AZ CL).1 [(0,[])] [0] []=([(0,[(0,0)])],true):=A7O
 have v1:VF (AZ CL).1 [(0,[(0,1),(1,2)]),(1,[]),(0,[])]:=zI
 have v2:VF (AZ CL).1 [(0,[(0,1),(1,2)]),(1,[]),(2,[])]:=zJ
 have v3:VF (AZ CL).1 [(0,[(0,1)]),(0,[(0,2)]),(1,[])]:=zL
 have v4:VF (AZ CL).1 [(0,[(0,1),(1,1)]),(0,[])]:=zK
 have v5:VF (AZ CL).1 [(0,[(0,0)])]:=zM
 have v6:VF (AZ CL).1 [(0,[])]:=pG
 have f1:Uu (AZ CL).1 [0,0]:=A7c
 have f2:Uu (AZ CL).1 [0]:=A2K
 have f3:Uu (AZ CL).1 [1]:=A7d
 have f4:Uu (AZ CL).1 []:=A7e
 generalize (AZ CL).1=h at *
 have pe0:Fk [] (0 / 2)=[]:=rfl
 have pe1:Fk [0,1,1,2] (4 / 2)=[(0,1),(1,2)]:=rfl
 have pe2:Fk [0,1,1,1] (4 / 2)=[(0,1),(1,1)]:=rfl
 have pe3:Fk [0,1] (2 / 2)=[(0,1)]:=rfl
 have pe4:Fk [0,2] (2 / 2)=[(0,2)]:=rfl
 have pe5:Fk [0,0] (2 / 2)=[(0,0)]:=rfl
 have he:(h.1,h.2)=h:=rfl
 have ra:A2I h []=([((0:Int),[])],true):=rfl
 simp only[he,pe0,pe1,pe2,pe3,pe4,pe5]
 refine IQ drawsAny hc 14 [([0,1,2,3,4,5,6,7,8,9,10,12],13)] [11] (by kernel_rfl) (YV ?_ ?_)
 ·exact⟨hu,v1,v4⟩
 ·refine hC hc [] ?_ ?_
  ·trivial
  ·refine zO [0,1,2,3,4,6,7,8,9,10,11,12,13,14,15,16,17] hc ?_ ?_ ?_
   ·trivial
   ·trivial
   ·simp only[he,pe0,pe1,pe2,pe3,pe4,pe5,q1,q2,q3]
    repeat'(first|exact trivial|refine eS rfl ?_|refine AB ?_|refine rP [0,1,2,3,4,6,7,8,9,10,11,12,13,14,15,16,17] hc ?_ ?_|fail)
    refine IQ drawsAny hc 14 [([0,1,2,3,4,5,6,7,8,9,10,12],13)] [11] (by kernel_rfl) (YV ?_ ?_)
    ·exact⟨hu,v2,v4⟩
    ·refine hC hc [] ?_ ?_
     ·trivial
     ·refine zO [0,1,2,3,4,6,7,8,9,10,11,12,13,14,15,16,17] hc ?_ ?_ ?_
      ·trivial
      ·trivial
      ·simp only[he,pe0,pe1,pe2,pe3,pe4,pe5,q1,q2,q3]
       repeat'(first|exact trivial|refine eS rfl ?_|refine AB ?_|refine rP [0,1,2,3,4,6,7,8,9,10,11,12,13,14,15,16,17] hc ?_ ?_|fail)
       refine IQ drawsAny hc 18 [([0,1,2,3,4,5,6,7,8,9,10,11,12,13,14,16],17)] [15] (by kernel_rfl) (YV ?_ ?_)
       ·exact⟨hu,v3,v5⟩
       ·refine hC hc [] ?_ ?_
        ·trivial
        ·refine zO [0,1,2,3,4,6,7,8,9,10,11,12,13,14,15,16,17] hc ?_ ?_ ?_
         ·trivial
         ·trivial
         ·simp only[he,pe0,pe1,pe2,pe3,pe4,pe5,q1,q2,q3]
          repeat'(first|exact trivial|refine eS rfl ?_|refine AB ?_|refine rP [0,1,2,3,4,6,7,8,9,10,11,12,13,14,15,16,17] hc ?_ ?_|fail)
          ·exact⟨hu,ht,v6,f1,f2⟩
          ·exact⟨hu,ht,v6,f2,f3⟩
          ·exact⟨hu,ht,v6,f2,f4⟩
          ·exact⟨hu,fun x hx=>by cases hx⟩
          ·simp only[he,r1,r2,r3,ra]
           repeat'(first|exact trivial|refine eS rfl ?_|refine AB ?_|refine rX [0,1,2,3,4,6,7,8,9,10,11,12,13,14,15,16,17] hc ?_ ?_|refine rC ?_ ?_<;>intro AA<;>try(cases AA;done))
           ·repeat'(first|(refine(?_:Ej _);unfold Ej;decide +kernel)|decide +kernel|intro _|apply And.intro)
           ·refine Ev.ent (σ':=⟨[(0,.p .bool true)],[]⟩) ?_ (AC [] rfl rfl ?_ ?_)
            ·exact AH hc [.tmp 0] rfl (.inl rfl) (by simp) (by first|exact eR|refine Aw ?_)
            ·first|exact eN|refine eM ?_
            ·first|exact eN|refine eM ?_
             decide +kernel
end
/- The law UnifyMakes. -/
section
attribute [local go_sem] O5 bZ cA Ig QJ Hc
theorem f5 (d:List AK):Uv (Cz d):=by
 have key:∀d:List AK,Uv (AZ d).1:=fun d t ht=>(fW d).nrm _ (List.mem_map.2 ⟨t,ht,rfl⟩)
 unfold Cz
 split
 ·exact key d
 ·exact key Ha
end
/- The law UnifyPlaces. -/
section
attribute [local go_sem] O5 bZ O4 cA A2y A2z A2A oL Hc
theorem QO {h:AM} (hh:H11 h) {a b:List AE} {p:List Int} (va:VF h a) (vb:VF h b) (fp:Uu h p) (lp:p.length≤20) (lb:b.length≤20) (ho:(KM h a p b).2=true) :
  VF h (KM h a p b).1∧(J1 (KM h a p b).1 0 p).2=true∧(0≤(J1 (KM h a p b).1 0 p).1∧(J1 (KM h a p b).1 0 p).1<((KM h a p b).1.length:Int))∧KI h a (KM h a p b).1=true∧KI h b (YO (KM h a p b).1 p)=true∧AY (YO (KM h a p b).1 p)∧0<(YO (KM h a p b).1 p).length∧D7 h (YO (KM h a p b).1 p):=by
 have vu:=UH va.h0 vb fp (by omega) (by omega)
 obtain⟨vF,g1,g2,-⟩:=tJ va vu ho
 unfold KM
 generalize (BP h a (B0 p b)).1=F at *
 obtain⟨m,hm⟩:=(UU vu vF).1 g2
 obtain⟨hw,hr,hg⟩:=yG vb vF hm
 have hp:=bV vF.good vF.str p 0
 rw[hw]at hp
 simp only at hp
 have hgt:YO F p=AO F (m (p.length:Int)):=by unfold YO;rw[hp,if_pos rfl]
 rw[hgt,hp]
 have hc:=sW vF.good hr.1 hr.2
 exact⟨vF,rfl,hr,g1,hg,hc.1,hc.2,A2p vF.good vF.ty hr.1 hr.2⟩
def YT:Af:={ ins:=[Ec,T69],pre:=fun _=>True,out:=fun _=>[.p .bool true] }
attribute [local go_sem] YT
theorem A2M:Al Tryz.prog 13 YT:=by
 refine AU Tryz.func13 (by kernel_rfl) rfl Tryz.ntmps13 (by decide) (by kernel_rfl) (AG [(15,O5),(16,bZ),(23,O4),(17,cA),(45,A2y),(46,A2z),(47,A2A),(48,oL),(20,Hc)] [19,26]) (AF tK (AF A2B (AF fU (AF A2L (AF A3U (AF A3V (AF A3W (AF A29 (AF Tf AJ))))))))) ?_
 rintro w0 O0 ⟨d,⟨a,p,b⟩,u⟩ hc - -
 simp only[YT,AN]
 have hh:=b5 d
 have hn:=f5 d
 have hv:=A2D (d:=d) (l:=[a,b])
 have hvc:=fun g=>let r:=hv g;(⟨r a (by simp),r b (by simp)⟩:(VF (Cz d) a∧a.length≤12)∧(VF (Cz d) b∧b.length≤12))
 have hpc:=fun(g:GY (Cz d) [p]=true)=>tG g p (by simp)
 repeat'(first|exact trivial|refine eS rfl ?_|refine AB ?_|refine rX [0,1,3,4,5,6,7,8,9,10,11,29,61,63] hc ?_ ?_|refine rC ?_ ?_<;>intro AA<;>try(cases AA;done))
 all_goals try simp only[he2 (Cz d)]at *
 ·exact AH hc [.tmp 4] rfl (.inl rfl) (by simp) (by first|exact eR|refine Aw ?_)
 ·obtain⟨⟨va,la⟩,vb,lb⟩:=hvc AA.1
  obtain⟨fp,lp⟩:=hpc AA.2
  exact⟨hh.hu,va,vb,fp,by omega,by omega,by omega⟩
 ·obtain⟨⟨va,la⟩,vb,lb⟩:=hvc AA.1
  obtain⟨fp,lp⟩:=hpc AA.2
  exact⟨⟨hh.hu,hn,hh.top⟩,va,vb,fp,by omega,by omega,by omega⟩
 ·exact fun _=>b6 _ _
 ·exact absurd (Mj _) AA
 ·exact AH hc [.tmp 4] rfl (.inl rfl) (by simp) (by first|exact eR|refine Aw ?_)
 ·rename_i hv2 _
  obtain⟨⟨va,la⟩,vb,lb⟩:=hvc hv2.1
  obtain⟨fp,lp⟩:=hpc hv2.2
  obtain⟨vF,-,hr,-⟩:=QO hh va vb fp (by omega) (by omega) AA
  exact⟨vF.good,vF.srt hh.hu,vF.pos,fun _=>hr⟩
 ·rename_i hv2 _
  obtain⟨⟨va,la⟩,vb,lb⟩:=hvc hv2.1
  obtain⟨fp,lp⟩:=hpc hv2.2
  obtain⟨vF,-,-,-,-,c1,c2,c3⟩:=QO hh va vb fp (by omega) (by omega) AA
  exact⟨fun _=>⟨va.good,va.pos,vF.good,vF.pos,va.ty,vF.ty⟩,fun _=>⟨vb.good,vb.pos,c1,c2,vb.ty,c3⟩⟩
 ·rename_i hv2 _
  obtain⟨⟨va,la⟩,vb,lb⟩:=hvc hv2.1
  obtain⟨fp,lp⟩:=hpc hv2.2
  obtain⟨-,e1,-,e2,e3,-⟩:=QO hh va vb fp (by omega) (by omega) AA
  rw[e1,e2,e3]
  exact AH hc [.tmp 4] rfl (.inl rfl) (by simp) (by first|exact eR|refine Aw ?_)
end
end Go.Proofs.YtebfihindnhccaaGreat.Fw
