/- Contracts of the program's and the reference's functions, and the plain laws of what they compute: W5 U1 U2 U3 U4 U5 U6 U7 U8 U9 U10 N7 U11 U12 N8 U14 W10 H2 V15 V1. -/
/- Plain: subsume.Map finds a map if there is one; parts subsume, and parts of what subsumes subsume parts. -/
import Derived.Test.YtebfihindnhccaaGreatIYB
import Derived.Test.YtebfihindnhccaaGreatIZI
set_option linter.unusedVariables false
set_option linter.unusedSimpArgs false
namespace Go.Proofs.YtebfihindnhccaaGreat.Fw
open Go
attribute [local irreducible] Ev
attribute [local go_sem] Yx AN List.toList_toArray Bi evG evK Uc EU JT GK FY Fq Ni J4 B4 DB Le CK CZ frz cD GF DA A5 FL Bg AV.frz AV.frzs AV.drp AV.drps AV.names AV.namess aq GH J3 JL RG IE BS BV Ik Ef Ho Eg Hq Hp Hr R5 Na Gb JM FO EA R6 O9 tS Il Hs KS Ey EE RH CP EF El PA PB KT II JN Cn Cg E7 DZ G9 DX Em DY EH FQ CK CX RF O8 Mm GB IH IG KR MT Nf KV KY KW JQ QT KX JR Wn Nh Ng AV.trn AV.trns Dy CO Obj.trn I0 ZI Cp DK Co EI CY Eo Av lk Gm GG G0 zN cC Ud cF QR pH pI zR AV.cells Bx Ii NZ JP Nc CF MR Ty.cell1 Hn Ee DW Fm Ml Ex JK KQ QP GE Ga MM RE R3 KO JJ Wk Ya QQ MS Cl Ij RV.flat Ty.flat Ty.size St.add upd Ua BT Value.oneCell' KJ Ty.dflt Hm Ny HG OH List.take_succ_cons List.take_zero List.length_cons Y7 Y8 OG Ix Kn Gy Iy uP FZ Lo Lp Lq Lr PK PM Ls Hw SQ Option.map_some Option.map_none Option.bind_some Option.getD_some Option.getD_none Option.isNone_none Option.isNone_some Bool.and_true Bool.true_and Bool.and_false Bool.false_and Bool.not_true Bool.not_false if_true if_false List.length_cons List.length_nil and_true true_and and_self List.all_cons List.all_nil List.append_nil List.nil_append List.cons_append List.getElem?_cons_zero List.getElem?_cons_succ List.getElem?_nil List.map_cons List.map_nil List.set_cons_zero List.set_cons_succ List.isEmpty_nil List.isEmpty_cons decide_true decide_false beq_self_eq_true bne_self_eq_false Nat.zero_add Nat.add_zero Nat.sub_zero Int.toNat_natCast Int.toNat_zero Int.toNat_one List.take_length List.length_append List.length_singleton true_or or_true or_self false_or or_false Ty.agg.injEq Ty.slice.injEq Ty.prod.injEq Ty.int.injEq Option.some.injEq beq_iff_eq Kl evMG evMQ uS HI Kj Bm Iw GL N9 Iu HH Hx Ja J8 Mv MZ Mw RL Kk OB OC Iv Aa Ak Op.operands Call.operands List.filterMap_cons List.filterMap_nil List.append_eq Bool.cond_false_right Bool.cond_true_left cond_true cond_false implies_true decide_eq_true_eq beq_true beq_false Bool.or_true Bool.or_false Bool.true_or Bool.false_or Option.isSome_some FM Lf Ep G7 Wm Nb FP Fy Fx Ht G8 JO KU Ue cE Ub inB JS QQX GC Im BG Y9 List.drop_zero Db HJ XI B9 Je B7 AV.fgt AV.fgts Obj.fgt Au Aj Aa Ct Hk BF GM List.any_cons List.any_nil dC ZC XJ ZD Kp PR qs List.flatMap_cons List.flatMap_nil List.cons_append tn XM I1 List.take_succ_cons List.drop_succ_cons XQ HN Bh gX Lx Bv CG Ae FX JZ BD FW F2 HF Qj
attribute [local go_sem] ty1 ty2 ty3 ty4 ty5 ty9 A0p A0q A0r A0s A0t A0u A0v A0w A0x A0y A0z A0A A0B A0C A0D A0E A0F A0G A0H A0I A0J A0K A0L A0M A0N A0O A0P A0Q A0R A0S A0T A0U A0V A0W A0X A0Y A0Z A10 A11 A12 A13 A14 A15 A16 A17 A18 A19 A1a A1b A1c A1d A1e A1f A1g A1h A1i A1j A1k A1l A1m A1n A1o A1p A1q A1r A1s A1t A1u A1v A1w A1x A1y A1z A1A A1B A1C A1D A1E hD hH hZ iA iB iC iD iE iG iH iI iJ iK iL iM iO iP iQ iR iT iU iV iW iX iY iZ i3 i4 i5 i6 i7 i8 i9 jA jB jC jD jE jF jG jH jI jJ jK jL jM jN jO jP jQ jR jS jT jU jV jW jX jY jZ j3 j4 j5 j6 j7 j8 j9 kA kB kC kD kE kF kG kH kI kJ kK kL kM kN kO kP kQ kR kS kT kU kV kW kX kY kZ k4 k5 k6 k7 k8 k9 lA lB lC lD lE lF lG lH lI lJ lK lL lM lN lO lQ lR lS lU lV lW lX lY lZ l5 l6 l7 l8 l9 mA mB mC mD mE mF mG mH mI mJ mK mL mM mN mO mP mQ mR mS mT mU mV mW mX mY mZ m5 m6 m7 m8 m9 nA nB nC nD nE nF nG nH nI nJ nK
set_option maxRecDepth 100000
set_option maxHeartbeats 4000000
section
structure MB (h:AM) (a b:List AE) (m:Int→Int):Prop where
 zero:m 0=0
 rng:∀i,0≤i→i<(a.length:Int)→0≤m i∧m i<(b.length:Int)
 ty:∀i,0≤i→i<(a.length:Int)→CH h (a.getD i.toNat (0,[])).1 (b.getD (m i).toNat (0,[])).1=true
 arc:∀i,0≤i→i<(a.length:Int)→∀x∈AR a i,DI (AR b (m i)) x.1=m x.2
theorem JD {l:List (Int×Int)} (h:l.Pairwise (fun a b=>a.1<b.1)) {a:Int×Int} (ha:a∈l):DI l a.1=a.2:=by
 induction l with
 | nil=>cases ha
 | cons b l ih =>
  obtain⟨h1,h2⟩:=List.pairwise_cons.1 h
  simp only[DI]
  rcases List.mem_cons.1 ha with rfl|ha
  ·rw[if_pos rfl]
  ·rw[if_neg (by have:=h1 a ha;omega)]
   exact ih h2 ha
theorem LO {l:List (Int×Int)} {e:Int} (h:0≤DI l e):∃a∈l,a.1=e∧a.2=DI l e:=by
 induction l with
 | nil=>simp only[DI]at h;omega
 | cons b l ih =>
  simp only[DI]at h ⊢
  split
  ·rename_i hb
   exact⟨b,by simp,hb,rfl⟩
  ·rename_i hb
   rw[if_neg hb]at h
   obtain⟨a,ha,e1,e2⟩:=ih h
   exact⟨a,by simp[ha],e1,e2⟩
def RO (f:List AE):Prop:=∀i:Int,0<i→i<(f.length:Int)→∃j,0≤j∧j<i∧∃x∈AR f j,x.2=i
/-! The map is found -/
structure MH (a:List AE) (m:Int→Int) (M:List Int):Prop where
 len:M.length=a.length
 val:∀k:Nat,k<a.length→M.getD k 0=-1∨M.getD k 0=m (k:Int)
theorem Fg {M:List Int} {k j:Nat} {v:Int} (hk:k<M.length):(M.set k v).getD j 0=if k=j then v else M.getD j 0:=by
 by_cases h:k=j
 ·subst h;rw[if_pos rfl,Ia _ _ _ hk]
 ·rw[if_neg h,getD_set_ne _ _ _ h]
theorem aG {a:List AE} (ha:AY a) {m:Int→Int} {n:Int} (hm:∀i,0≤i→i<(a.length:Int)→0≤m i) {bl:List (Int×Int)}:∀ {l:List (Int×Int)} {M:List Int},(∀x∈l,x∈AR a n)→(∀x∈l,DI bl x.1=m x.2)→MH a m M →
  ∃M',Eb bl l M=some M'∧MH a m M'∧(∀k:Nat,k<a.length→M.getD k 0=m (k:Int)→M'.getD k 0=m (k:Int))∧∀x∈l,M'.getD x.2.toNat 0=m x.2
 | [],M,_,_,h=>⟨M,rfl,h,fun _ _ h=>h,fun x hx=>by cases hx⟩
 | x :: l,M,hl,ht,h=>by
  have hr:=BC ha (hl x (by simp))
  have hx:=ht x (by simp)
  have hmx:=hm x.2 hr.1 hr.2
  have hxl:x.2.toNat<a.length:=by omega
  have hxe:((x.2.toNat:Nat):Int)=x.2:=by omega
  have hv:=h.val x.2.toNat hxl
  rw[hxe]at hv
  have hbad:¬LN bl M x=true:=by
   unfold LN
   rw[Bool.or_eq_true,Bool.and_eq_true,decide_eq_true_eq,decide_eq_true_eq,Bool.not_eq_true',beq_eq_false_iff_ne,hx]
   rintro (g|⟨g1,g2⟩)
   ·omega
   ·rcases hv with hv|hv
    ·omega
    ·exact g2 hv
  have h2:MH a m (M.set x.2.toNat (DI bl x.1)):=by
   refine⟨by rw[List.length_set];exact h.len,fun k hk=>?_⟩
   rw[Fg (by rw[h.len];exact hxl)]
   split
   ·rename_i e
    right
    rw[hx,←e,hxe]
   ·exact h.val k hk
  obtain⟨M',e1,e2,e3,e4⟩:=aG ha hm (l:=l) (fun y hy=>hl y (by simp[hy])) (fun y hy=>ht y (by simp[hy])) h2
  refine⟨M',?_,e2,fun k hk hkm=>e3 k hk ?_,fun y hy=>?_⟩
  ·simp only[Eb]
   rw[if_neg hbad]
   exact e1
  ·rw[Fg (by rw[h.len];exact hxl)]
   split
   ·rename_i e
    rw[hx,←e,hxe]
   ·exact hkm
  ·rcases List.mem_cons.1 hy with rfl|hy
   ·have h9:=e3 y.2.toNat hxl (by rw[Fg (by rw[h.len];exact hxl),if_pos rfl,hx,hxe])
    rw[hxe]at h9
    exact h9
   ·exact e4 y hy
theorem WO {h:AM} {a b:List AE} (ha:AY a) (hro:RO a) {m:Int→Int} (hm:MB h a b m):∀(r i:Nat) (M:List Int),r+i=a.length→MH a m M→(0<a.length→M.getD 0 0=0) →
  (∀k:Nat,k<a.length→(∃j:Int,0≤j∧j<(i:Int)∧∃x∈AR a j,x.2=(k:Int))→M.getD k 0=m (k:Int))→∃M',Ff h b (a.drop i) i M=some M'
 | 0,i,M,hri,_,_,_=>by
  rw[List.drop_eq_nil_of_le (by omega)]
  exact⟨M,rfl⟩
 | r+1,i,M,hri,hM,hM0,hMr=>by
  have hi:i<a.length:=by omega
  have hki:M.getD i 0=m (i:Int):=by
   cases i with
   | zero =>
    rw[hM0 hi]
    exact hm.zero.symm
   | succ i =>
    obtain⟨j,j0,j1,x,hx,e⟩:=hro ((i+1:Nat):Int) (by omega) (by omega)
    exact hMr (i+1) hi ⟨j,j0,j1,x,hx,e⟩
  have hr:=hm.rng (i:Int) (by omega) (by omega)
  have hty:=hm.ty (i:Int) (by omega) (by omega)
  have harc:=hm.arc (i:Int) (by omega) (by omega)
  rw[Int.toNat_natCast]at hty
  have hbad:¬Gu h b (a.getD i (0,[])) (M.getD i 0)=true:=by
   unfold Gu
   rw[Bool.or_eq_true,decide_eq_true_eq,Bool.not_eq_true',hki]
   rintro (g|g)
   ·omega
   ·rw[hty]at g;cases g
  rw[Ib h b a M hi,if_neg hbad,hki]
  have hai:AR a (i:Int)=(a.getD i (0,[])).2:=by rw[AR,Int.toNat_natCast]
  obtain⟨M',e1,e2,e3,e4⟩:=aG (n:=(i:Int)) ha (fun k g0 g1=>(hm.rng k g0 g1).1) (bl:=(b.getD (m (i:Int)).toNat (0,[])).2) (l:=(a.getD i (0,[])).2) (fun x hx=>by rw[hai];exact hx) (fun x hx=>harc x (by rw[hai];exact hx)) hM
  rw[e1]
  simp only
  refine WO ha hro hm r (i+1) M' (by omega) e2 (fun g=>?_) (fun k hk hj=>?_)
  ·have:=e3 0 g (by rw[hM0 g];exact hm.zero.symm)
   rw[this]
   exact hm.zero
  ·obtain⟨j,j0,j1,x,hx,e⟩:=hj
   by_cases hji:j<(i:Int)
   ·exact e3 k hk (hMr k hk ⟨j,j0,hji,x,hx,e⟩)
   ·have:j=(i:Int):=by omega
    subst this
    rw[hai]at hx
    have:=e4 x hx
    rw[e]at this
    rw[Int.toNat_natCast]at this
    exact this
theorem oM {h:AM} {a b:List AE} (ha:AY a) (h0:0<a.length) (hro:RO a) {m:Int→Int} (hm:MB h a b m):KI h a b=true:=by
 have hz:((List.replicate a.length (-1:Int)).set 0 0).getD 0 0=0:=by rw[Fg (by simpa using h0),if_pos rfl]
 obtain⟨M',e⟩:=WO ha hro hm a.length 0 ((List.replicate a.length (-1)).set 0 0) (by omega) ⟨by simp,fun k hk=>by
  rw[Fg (by simpa using h0)]
  split
  ·rename_i e
   right
   rw[←e]
   exact hm.zero.symm
  ·left
   simp[List.getD_eq_getElem?_getD,List.getElem?_replicate,hk]⟩ (fun _=>hz) (fun k hk hj=>by
  obtain⟨j,j0,j1,_⟩:=hj
  omega)
 unfold KI Xx
 rw[List.drop_zero]at e
 rw[e]
 rfl
/-! What is found is a map -/
theorem aH {b:List AE} {bl:List (Int×Int)} (hb:0<b.length) (hbl:∀x∈bl,x.2<(b.length:Int)) {n:Nat}:∀ {l:List (Int×Int)} {M M':List Int},(∀x∈l,0≤x.2∧x.2<(n:Int))→M.length=n→(∀k,M.getD k 0<(b.length:Int))→Eb bl l M=some M' →
  M'.length=n∧(∀k,M'.getD k 0<(b.length:Int))∧(∀k,0≤M.getD k 0→M'.getD k 0=M.getD k 0)∧∀x∈l,0≤M'.getD x.2.toNat 0∧DI bl x.1=M'.getD x.2.toNat 0
 | [],M,M',_,hn,hk,h=>by
  have:M=M':=Option.some.inj h
  subst this
  exact⟨hn,hk,fun _ _=>rfl,fun x hx=>by cases hx⟩
 | x :: l,M,M',hl,hn,hk,h=>by
  simp only[Eb]at h
  split at h
  ·cases h
  ·rename_i hbad
   have hr:=hl x (by simp)
   have hxl:x.2.toNat<M.length:=by omega
   have htl:=X0 (n:=(b.length:Int)) (by omega) (l:=bl) x.1 hbl
   obtain⟨g1,g2,g3,g4⟩:=aH hb hbl (l:=l) (fun y hy=>hl y (by simp[hy])) (by rw[List.length_set];exact hn) (fun k=>by
    rw[Fg hxl]
    split
    ·exact htl
    ·exact hk k) h
   have hb2:0≤DI bl x.1∧(0≤M.getD x.2.toNat 0→M.getD x.2.toNat 0=DI bl x.1):=by
    unfold LN at hbad
    rw[Bool.or_eq_true,Bool.and_eq_true,decide_eq_true_eq,decide_eq_true_eq,Bool.not_eq_true',beq_eq_false_iff_ne]at hbad
    refine⟨Int.not_lt.1 fun e=>hbad (.inl e),fun e=>Classical.byContradiction fun e2=>hbad (.inr ⟨e,e2⟩)⟩
   refine⟨g1,g2,fun k hk0=>?_,fun y hy=>?_⟩
   ·have h1:(M.set x.2.toNat (DI bl x.1)).getD k 0=M.getD k 0:=by
     rw[Fg hxl]
     split
     ·rename_i e
      rw[←e]at hk0 ⊢
      exact(hb2.2 hk0).symm
     ·rfl
    rw[g3 k (by rw[h1];exact hk0),h1]
   ·rcases List.mem_cons.1 hy with rfl|hy
    ·have h1:(M.set y.2.toNat (DI bl y.1)).getD y.2.toNat 0=DI bl y.1:=by rw[Fg hxl,if_pos rfl]
     have h2:=g3 y.2.toNat (by rw[h1];exact hb2.1)
     rw[h1]at h2
     exact⟨by rw[h2];exact hb2.1,h2.symm⟩
    ·exact g4 y hy
theorem WP {hd:AM} {a b:List AE} (ha:AY a) (hb:AY b) (hb0:0<b.length):∀(r i:Nat) (M M':List Int),r+i=a.length→M.length=a.length→(∀k,M.getD k 0<(b.length:Int))→Ff hd b (a.drop i) i M=some M' →
  (∀k,M'.getD k 0<(b.length:Int))∧(∀k,0≤M.getD k 0→M'.getD k 0=M.getD k 0)∧∀k:Nat,i≤k→k<a.length→0≤M'.getD k 0∧CH hd (a.getD k (0,[])).1 (b.getD (M'.getD k 0).toNat (0,[])).1=true∧∀x∈(a.getD k (0,[])).2,0≤M'.getD x.2.toNat 0∧DI (b.getD (M'.getD k 0).toNat (0,[])).2 x.1=M'.getD x.2.toNat 0
 | 0,i,M,M',hri,_,hk,h=>by
  rw[List.drop_eq_nil_of_le (by omega)]at h
  have:M=M':=Option.some.inj h
  subst this
  exact⟨hk,fun _ _=>rfl,fun k h1 h2=>by omega⟩
 | r+1,i,M,M',hri,hn,hk,h=>by
  have hi:i<a.length:=by omega
  rw[Ib hd b a M hi]at h
  split at h
  ·cases h
  ·rename_i hbad
   have hb2:0≤M.getD i 0∧CH hd (a.getD i (0,[])).1 (b.getD (M.getD i 0).toNat (0,[])).1=true:=by
    unfold Gu at hbad
    rw[Bool.or_eq_true,decide_eq_true_eq,Bool.not_eq_true']at hbad
    refine⟨Int.not_lt.1 fun e=>hbad (.inl e),?_⟩
    cases hh:CH hd (a.getD i (0,[])).1 (b.getD (M.getD i 0).toNat (0,[])).1 with
    | true=>rfl
    | false=>exact absurd (.inr hh) hbad
   cases hma:Eb (b.getD (M.getD i 0).toNat (0,[])).2 (a.getD i (0,[])).2 M with
   | none=>rw[hma]at h;cases h
   | some M1 =>
    rw[hma]at h
    simp only at h
    obtain⟨g1,g2,g3,g4⟩:=aH hb0 (fun x hx=>(GV hb _ x hx).2) (n:=a.length) (fun x hx=>GV ha i x hx) hn hk hma
    obtain⟨k1,k2,k3⟩:=WP ha hb hb0 r (i+1) M1 M' (by omega) g1 g2 h
    have hkeep:∀k,0≤M.getD k 0→M'.getD k 0=M.getD k 0:=fun k hk0=>by
     have:=g3 k hk0
     rw[k2 k (by rw[this];exact hk0),this]
    refine⟨k1,hkeep,fun k h1 h2=>?_⟩
    by_cases hki:k=i
    ·subst hki
     rw[hkeep k hb2.1]
     refine⟨hb2.1,hb2.2,fun x hx=>?_⟩
     obtain⟨e1,e2⟩:=g4 x hx
     have:=k2 x.2.toNat e1
     rw[this]
     exact⟨e1,e2⟩
    ·exact k3 k (by omega) h2
theorem A3G {h:AM} {a b:List AE} (ha:AY a) (ha0:0<a.length) (hb:AY b) (hb0:0<b.length) (hg:KI h a b=true):∃m,MB h a b m:=by
 unfold KI Xx at hg
 cases hm:Ff h b a 0 ((List.replicate a.length (-1)).set 0 0) with
 | none=>rw[hm]at hg;cases hg
 | some M =>
  have hz:((List.replicate a.length (-1:Int)).set 0 0).getD 0 0=0:=by rw[Fg (by simpa using ha0),if_pos rfl]
  obtain⟨k1,k2,k3⟩:=WP ha hb hb0 a.length 0 ((List.replicate a.length (-1)).set 0 0) M (by omega) (by simp) (fun k=>by
   rw[Fg (by simpa using ha0)]
   split
   ·omega
   ·rw[List.getD_eq_getElem?_getD,List.getElem?_replicate]
    split
    ·show (-1:Int)<_;omega
    ·show (0:Int)<_;omega) (by rw[List.drop_zero];exact hm)
  have hM0:=k2 0 (by rw[hz];omega)
  rw[hz]at hM0
  refine⟨fun i=>M.getD i.toNat 0,hM0,fun i g0 g1=>⟨(k3 i.toNat (by omega) (by omega)).1,k1 _⟩,fun i g0 g1=>(k3 i.toNat (by omega) (by omega)).2.1,fun i g0 g1 x hx=>((k3 i.toNat (by omega) (by omega)).2.2 x hx).2⟩
/-! A canonical form is led through in order -/
theorem Tt {f:List AE} (hf:AY f):∀(k:Nat) (t:List Int) (n:Int),LF f t→0≤n→n<f.length→n∉t →
  ∀q,t.length<q→q<(DT f k t n).length→∃j,j<q∧∃a∈AR f ((DT f k t n).getD j 0),a.2=(DT f k t n).getD q 0
 | 0,t,n,h,h0,h1,h2,q,hq1,hq2=>by simp only[DT]at hq2;omega
 | k+1,t,n,h,h0,h1,h2,q,hq1,hq2=>by
  have key:∀(l:List (Int×Int)) (u:List Int),(∀a∈l,a∈AR f n)→LF f u→t++[n] <+: u →
    (∀q,t.length<q→q<u.length→∃j,j<q∧∃a∈AR f (u.getD j 0),a.2=u.getD q 0) →
    ∀q,t.length<q→q<(l.foldl (Ab f k) u).length→∃j,j<q∧∃a∈AR f ((l.foldl (Ab f k) u).getD j 0),a.2=(l.foldl (Ab f k) u).getD q 0:=by
   intro l
   induction l with
   | nil=>intro u _ _ _ hu q g1 g2;exact hu q g1 g2
   | cons a l ih =>
    intro u hl hu hpre hlead
    have ha:=hl a (by simp)
    have hr:=BC hf ha
    rw[List.foldl_cons]
    by_cases hm:a.2∈u
    ·have hs:Ab f k u a=u:=by unfold Ab;rw[if_pos hm]
     rw[hs]
     exact ih u (fun b hb=>hl b (by simp[hb])) hu hpre hlead
    ·have hs:Ab f k u a=DT f k u a.2:=by unfold Ab;rw[if_neg hm]
     rw[hs]
     obtain⟨d1,d2⟩:=Dm hf k u a.2 hu hr.1 hr.2 hm
     have hget:∀j,j<u.length→(DT f k u a.2).getD j 0=u.getD j 0:=fun j hj=>by
      obtain⟨v,hv⟩:=d2
      rw[←hv]
      simp only[List.getD_eq_getElem?_getD]
      rw[List.getElem?_append_left hj]
     have hun:u.getD t.length 0=n:=by
      obtain⟨v,hv⟩:=hpre
      rw[←hv]
      simp[List.getD_eq_getElem?_getD]
     have hul:t.length<u.length:=by
      have:=hpre.length_le
      simp at this
      omega
     refine ih (DT f k u a.2) (fun b hb=>hl b (by simp[hb])) d1 (hpre.trans d2) (fun q g1 g2=>?_)
     by_cases hq:q<u.length
     ·obtain⟨j,j1,b,hb,e⟩:=hlead q g1 hq
      refine⟨j,j1,b,?_,?_⟩
      ·rw[hget j (by omega)];exact hb
      ·rw[hget q hq];exact e
     ·by_cases hq2:q=u.length
      ·subst hq2
       refine⟨t.length,hul,a,?_,?_⟩
       ·rw[hget _ hul,hun];exact ha
       ·cases k with
        | zero=>simp only[DT]at g2;omega
        | succ k =>
         have hp:u++[a.2] <+: DT f (k+1) u a.2:=by
          rw[CN]
          exact(EP (Dm hf k) _ _ (fun b hb=>BC hf hb) (hu.snoc hr.1 hr.2 hm)).2
         obtain⟨v,hv⟩:=hp
         rw[←hv]
         simp[List.getD_eq_getElem?_getD]
      ·exact Tt hf k u a.2 hu hr.1 hr.2 hm q (by omega) g2
  rw[CN]at hq2 ⊢
  exact key _ (t++[n]) (fun a ha=>ha) (h.snoc h0 h1 h2) (List.prefix_refl _) (fun q g1 g2=>by simp only[List.length_append,List.length_singleton]at g2;omega) q hq1 hq2
theorem A2a {f:List AE} (hf:AY f) (hs:NK f) (h0:0<f.length) (acc:Int→Int×Int→Bool):RO (Tn acc f):=by
 obtain⟨hPg,hPs⟩:=WK hf hs acc
 have hPl:=I9 acc f f.length
 have ho:=xR hPg (by omega)
 have hcl:=sB (Fu acc f f.length)
 have hlead:=Tt hPg (Fu acc f f.length).length [] 0 (Gt _) (by omega) (by omega) (by simp)
 have har:=fun n hn=>sD hf hs h0 acc (n:=n) hn
 rw[hPl]at ho hcl hlead
 have hpf:(Tn acc f).length=(DT (Fu acc f f.length) f.length [] 0).length:=hcl
 intro i g0 g1
 rw[hpf]at g1
 generalize DT (Fu acc f f.length) f.length [] 0=o at *
 obtain⟨j,j1,a,ha,e⟩:=hlead i.toNat (by simp only[List.length_nil];omega) (by omega)
 have hjm:o.getD j 0∈o:=AD _ 0 (by omega)
 have hr:=ho.ok.rng _ hjm
 rw[hPl]at hr
 rw[AR,aF acc hr.1 hr.2]at ha
 refine⟨(j:Int),by omega,by omega,I8 o a,?_,?_⟩
 ·have:=har _ hjm
  rw[GU ho.ok.nd (by omega)]at this
  rw[this]
  exact List.mem_map.2 ⟨a,ha,rfl⟩
 ·show Be o a.2=i
  rw[e,GU ho.ok.nd (by omega)]
  omega
/-! Types -/
theorem e7 (x:List Int):K8 x x=true:=by
 unfold K8
 rw[List.all_eq_true]
 intro i hi
 rw[Gz,beq_iff_eq]
 exact Qs
theorem Ps (h:AM) (t:Int):CH h t t=true:=e7 _
end
/- Plain: a forest of representatives; a path halved leaves the representatives as they are. -/
section
abbrev DH (p:List Int) (n:Int):Int:=p.getD n.toNat 0
structure Fo (p:List Int) (rk:Int→Nat):Prop where
 rng:∀n,0≤n→n<(p.length:Int)→0≤DH p n∧DH p n<(p.length:Int)
 dec:∀n,0≤n→n<(p.length:Int)→DH p n≠n→rk (DH p n)<rk n
inductive Rt (p:List Int):Int→Int→Prop
 | base {n:Int} (h:DH p n=n):Rt p n n
 | step {n r:Int} (h:DH p n≠n) (h2:Rt p (DH p n) r):Rt p n r
theorem Rt.det {p:List Int} {n r s:Int} (h:Rt p n r) (g:Rt p n s):r=s:=by
 induction h with
 | base h =>
  cases g with
  | base g=>rfl
  | step g _=>exact absurd h g
 | step h _ ih =>
  cases g with
  | base g=>exact absurd g h
  | step _ g2=>exact ih g2
theorem Rt.root {p:List Int} {n r:Int} (h:Rt p n r):DH p r=r:=by
 induction h with
 | base h=>exact h
 | step _ _ ih=>exact ih
theorem Fo.ex {p:List Int} {rk:Int→Nat} (h:Fo p rk):∀(k:Nat) (n:Int),rk n≤k→0≤n→n<(p.length:Int)→∃r,Rt p n r∧0≤r∧r<(p.length:Int)
 | 0,n,hk,h0,h1=>by
  by_cases e:DH p n=n
  ·exact⟨n,.base e,h0,h1⟩
  ·have:=h.dec n h0 h1 e
   omega
 | k+1,n,hk,h0,h1=>by
  by_cases e:DH p n=n
  ·exact⟨n,.base e,h0,h1⟩
  ·have hd:=h.dec n h0 h1 e
   have hr:=h.rng n h0 h1
   obtain⟨r,g1,g2,g3⟩:=h.ex k (DH p n) (by omega) hr.1 hr.2
   exact⟨r,.step e g1,g2,g3⟩
theorem Fo.root {p:List Int} {rk:Int→Nat} (h:Fo p rk) {n:Int} (h0:0≤n) (h1:n<(p.length:Int)):∃r,Rt p n r∧0≤r∧r<(p.length:Int):=h.ex (rk n) n (Nat.le_refl _) h0 h1
theorem Ci {p:List Int} {n v:Int} (h0:0≤n) (h1:n<(p.length:Int)) (x:Int) (hx:0≤x):DH (p.set n.toNat v) x=if x=n then v else DH p x:=by
 unfold DH
 rw[Fg (by omega)]
 by_cases e:x=n
 ·subst e;rw[if_pos rfl,if_pos rfl]
 ·rw[if_neg (by omega),if_neg e]
def Fh (p:List Int) (n:Int):List Int:=p.set n.toNat (DH p (DH p n))
theorem Pt (p:List Int) (n:Int):(Fh p n).length=p.length:=by simp[Fh]
theorem xT {p:List Int} {rk:Int→Nat} (h:Fo p rk) {n:Int} (h0:0≤n) (h1:n<(p.length:Int)) (hn:DH p n≠n):Fo (Fh p n) rk:=by
 have hr:=h.rng n h0 h1
 have hr2:=h.rng _ hr.1 hr.2
 have hd:=h.dec n h0 h1 hn
 have hle:rk (DH p (DH p n))≤rk (DH p n):=by
  by_cases e:DH p (DH p n)=DH p n
  ·rw[e];exact Nat.le_refl _
  ·exact Nat.le_of_lt (h.dec _ hr.1 hr.2 e)
 refine⟨fun x x0 x1=>?_,fun x x0 x1 hx=>?_⟩
 ·rw[Pt]at x1 ⊢
  unfold Fh
  rw[Ci h0 h1 x x0]
  split
  ·exact hr2
  ·exact h.rng x x0 x1
 ·rw[Pt]at x1
  unfold Fh at hx ⊢
  rw[Ci h0 h1 x x0]at hx ⊢
  split
  ·rename_i e
   subst e
   omega
  ·rename_i e
   rw[if_neg e]at hx
   exact h.dec x x0 x1 hx
theorem aI {p:List Int} {rk:Int→Nat} (h:Fo p rk) {n:Int} (h0:0≤n) (h1:n<(p.length:Int)) (hn:DH p n≠n):∀(k:Nat) (x r:Int),rk x≤k→0≤x→x<(p.length:Int)→Rt p x r→Rt (Fh p n) x r:=by
 intro k
 induction k with
 | zero =>
  intro x r hk x0 x1 hx
  have e:DH p x=x:=Classical.byContradiction fun e=>by have:=h.dec x x0 x1 e;omega
  have hxn:x≠n:=fun e2=>hn (e2▸e)
  have:=hx.det (.base e)
  rw[this]
  refine .base ?_
  unfold Fh
  rw[Ci h0 h1 x x0,if_neg hxn]
  exact e
 | succ k ih =>
  intro x r hk x0 x1 hx
  by_cases e:DH p x=x
  ·have hxn:x≠n:=fun e2=>hn (e2▸e)
   have:=hx.det (.base e)
   rw[this]
   refine .base ?_
   unfold Fh
   rw[Ci h0 h1 x x0,if_neg hxn]
   exact e
  ·have hd:=h.dec x x0 x1 e
   have hr:=h.rng x x0 x1
   have hx2:Rt p (DH p x) r:=by
    cases hx with
    | base g=>exact absurd g e
    | step _ g=>exact g
   by_cases hxn:x=n
   ·subst hxn
    by_cases e2:DH p (DH p x)=DH p x
    ·have:=hx2.det (.base e2)
     rw[this]at hx2 ⊢
     refine .step (r:=DH p x) ?_ ?_
     ·unfold Fh
      rw[Ci h0 h1 x x0,if_pos rfl,e2]
      exact e
     ·have hp:DH (Fh p x) x=DH p x:=by
       unfold Fh
       rw[Ci h0 h1 x x0,if_pos rfl,e2]
      rw[hp]
      exact ih _ _ (by omega) hr.1 hr.2 hx2
    ·have hd2:=h.dec _ hr.1 hr.2 e2
     have hr2:=h.rng _ hr.1 hr.2
     have hx3:Rt p (DH p (DH p x)) r:=by
      cases hx2 with
      | base g=>exact absurd g e2
      | step _ g=>exact g
     have hp:DH (Fh p x) x=DH p (DH p x):=by
      unfold Fh
      rw[Ci h0 h1 x x0,if_pos rfl]
     refine .step ?_ ?_
     ·rw[hp]
      intro e3
      rw[e3]at hd2
      omega
     ·rw[hp]
      exact ih _ _ (by omega) hr2.1 hr2.2 hx3
   ·have hp:DH (Fh p n) x=DH p x:=by
     unfold Fh
     rw[Ci h0 h1 x x0,if_neg hxn]
    refine .step ?_ ?_
    ·rw[hp];exact e
    ·rw[hp]
     exact ih _ _ (by omega) hr.1 hr.2 hx2
def ER (p q:List Int):Prop:=p.length=q.length∧∀x r,0≤x→x<(p.length:Int)→(Rt p x r↔Rt q x r)
theorem ER.refl (p:List Int):ER p p:=⟨rfl,fun _ _ _ _=>Iff.rfl⟩
theorem ER.trans {p q s:List Int} (h:ER p q) (g:ER q s):ER p s :=
 ⟨h.1.trans g.1,fun x r x0 x1=>(h.2 x r x0 x1).trans (g.2 x r x0 (by rw[←h.1];exact x1))⟩
theorem e8 {p:List Int} {rk:Int→Nat} (h:Fo p rk) {n:Int} (h0:0≤n) (h1:n<(p.length:Int)) (hn:DH p n≠n):ER p (Fh p n):=by
 refine⟨(Pt p n).symm,fun x r x0 x1=>⟨fun hx=>aI h h0 h1 hn _ x r (Nat.le_refl _) x0 x1 hx,fun hx=>?_⟩⟩
 obtain⟨s,hs,-,-⟩:=h.root x0 x1
 have:=aI h h0 h1 hn _ x s (Nat.le_refl _) x0 x1 hs
 have e:=this.det hx
 rw[←e]
 exact hs
end
/- Functions of unify.classes: find, add. -/
section
def Q2 (h:AM) (p ty:List Int) (ar:List (List (Int×Int))):List (Nat×Obj):=[(1,.box 94 true [.p GD h,.sr 2 T3 0 p.length,.sr 3 T3 0 ty.length,.sr 4 CE 0 ar.length]),(2,.arr 3 T3 p),(3,.arr 3 T3 ty),(4,.arr 86 CE ar)]
theorem X2 (h:AM) (ty:List Int) (ar:List (List (Int×Int))) (rk:Int→Nat) {p:List Int} (hp:Fo p rk) {n:Int} (h0:0≤n) (h1:n<(p.length:Int)):B8 Tryz.prog 102 [.bp 1 [] 0,.p T3 n] (Q2 h p ty ar) [1]
  (fun res objs'=>∃(p':List Int) (r:Int),res=.p T3 r∧objs'=Q2 h p' ty ar∧Fo p' rk∧ER p p'∧Rt p n r):=by
 refine CQ Tryz.func102 (by kernel_rfl) rfl Tryz.ntmps102 (by simp only[List.length_cons,List.length_nil];omega) (by kernel_rfl) rfl rfl (AG []) AJ ?_
 intro w0 K O0 ρ0 hc hok1 hok2
 simp only[BG,Q2]
 repeat'(first|exact trivial|refine eS rfl ?_|refine AB ?_|refine rX [0,1,4,13] hc ?_ ?_|refine rC ?_ ?_<;>intro AA<;>try(cases AA;done))
 refine AL (ι:={x:List Int×Int//Fo x.1 rk∧ER p x.1∧0≤x.2∧x.2<(p.length:Int)∧(∀r,Rt x.1 x.2 r→Rt p n r)}) (fun x=>⟨[(0,.bp 1 [] 0),(1,.p T3 x.1.2)],[(1,.box 94 true [.p GD h,.sr 2 T3 0 p.length,.sr 3 T3 0 ty.length,.sr 4 CE 0 ar.length]),(2,.arr 3 T3 x.1.1),(3,.arr 3 T3 ty),(4,.arr 86 CE ar)]⟩) (fun x=>rk x.1.2) ⟨(p,n),hp,ER.refl p,h0,h1,fun _ g=>g⟩ (AC [(1,.nm 1),(2,.nm 2),(3,.nm 3),(4,.nm 4)] rfl rfl ?_ ?_) (fun x=>?_)
 ·first|exact eN|refine eM ?_
 ·first|exact eN|refine eM ?_
 ·obtain⟨⟨q,m⟩,hq,hs,m0,m1,hrt⟩:=x
  simp only at hq hs m0 m1 hrt
  have hql:q.length=p.length:=hs.1.symm
  have hr:=hq.rng m m0 (by omega)
  simp only
  repeat'(first|exact trivial|refine eS rfl ?_|refine AB ?_|refine rX [0,1,4,13] hc ?_ ?_|refine rC ?_ ?_<;>intro AA<;>try(cases AA;done))
  ·exact⟨m0,m1⟩
  ·exact⟨⟨m0,m1⟩,⟨hr.1,by rw[←hql];exact hr.2⟩,m0,m1⟩
  ·exact⟨m0,m1⟩
  ·have hne:DH q m≠m:=AA
   have hd:=hq.dec m m0 (by omega) hne
   have hr2:=hq.rng _ hr.1 hr.2
   have hd2:rk (DH q (DH q m))≤rk (DH q m):=by
    by_cases e:DH q (DH q m)=DH q m
    ·rw[e];exact Nat.le_refl _
    ·exact Nat.le_of_lt (hq.dec _ hr.1 hr.2 e)
   have hsm:=e8 hq m0 (by omega) hne
   have hpm:DH (Fh q m) m=DH q (DH q m):=by
    unfold Fh
    rw[Ci m0 (by omega) m m0,if_pos rfl]
   refine⟨⟨(Fh q m,DH q (DH q m)),xT hq m0 (by omega) hne,hs.trans hsm,hr2.1,by rw[←hql];exact hr2.2,fun r hr3=>hrt r ?_⟩,by simp only;omega,AC [(1,.nm 1),(2,.nm 2),(3,.nm 3),(4,.nm 4)] rfl rfl ?_ ?_⟩
   ·refine(hsm.2 m r m0 (by omega)).2 (.step ?_ ?_)
    ·rw[hpm]
     intro e
     rw[e]at hd2
     omega
    ·rw[hpm]
     exact hr3
   ·first|exact eN|refine eM ?_
    rfl
   ·first|exact eN|refine eM ?_
    exact hpm
  ·have he:DH q m=m:=by simpa using AA
   refine Ev.ent (σ':=⟨[(4,.p T3 m)],Q2 h q ty ar⟩) ?_ (AC [(1,.nm 1),(2,.nm 2),(3,.nm 3),(4,.nm 4)] rfl rfl ?_ ?_)
   ·exact BE hc [.tmp 4] rfl (.inl rfl) (.p T3 m) eT ⟨q,m,rfl,rfl,hq,hs,hrt m (.base he)⟩
   ·unfold Q2
    rw[hql]
    first|exact eN|refine eM ?_
   ·first|exact eN|refine eM ?_
end
/- Functions of unify.classes: add. -/
section
def BI (b n:Nat):List Int:=(List.range n).map fun i=>((b+i:Nat):Int)
def Ap (b:Nat) (l:List (Int×Int)):List (Int×Int):=l.map fun a=>(a.1,a.2+(b:Int))
def BZ (l:List AE) (n:Nat):List Int:=(l.take n).map fun x=>x.1
def Cw (b:Nat) (l:List AE) (n:Nat):List (List (Int×Int)):=(l.take n).map fun x=>Ap b x.2
theorem e9 (b n:Nat):BI b (n+1)=BI b n++[((b+n:Nat):Int)]:=by simp[BI,List.range_succ]
theorem F9 (b n:Nat):(BI b n).length=n:=by simp[BI]
theorem Tu (h:AM) (p ty:List Int) (ar:List (List (Int×Int))) (l:List AE) (hl:AY l) (hpl:p.length≤100000) (htl:ty.length=p.length) (hal:ar.length=p.length) :
  B8 Tryz.prog 60 [.bp 1 [] 0,.p Fl l] (Q2 h p ty ar) [1]
  (fun res objs'=>res=.raw (.tuple #[])∧objs'=Q2 h (p++BI p.length l.length) (ty++BZ l l.length) (ar++Cw p.length l l.length)):=by
 refine CQ Tryz.func60 (by kernel_rfl) rfl Tryz.ntmps60 (by simp only[List.length_cons,List.length_nil];omega) (by kernel_rfl) rfl rfl (AG []) AJ ?_
 intro w0 K O0 ρ0 hc hok1 hok2
 have hll:=hl.1
 simp only[BG,Q2]
 repeat'(first|exact trivial|refine eS rfl ?_|refine AB ?_|refine rX [0,1,4,5,6,7,9,15,16,17,18,46,47,48,49] hc ?_ ?_|refine rC ?_ ?_<;>intro AA<;>try(cases AA;done))
 refine AL (ι:={i:Nat//i≤l.length}) (fun i=>⟨[(0,.bp 1 [] 0),(4,.p (.int .i64) (p.length:Int)),(15,.p Fl l),(16,.p (.int .i64) (l.length:Int)),(17,.p (.int .i64) (i.1:Int))],[(1,.box 94 true [.p GD h,.sr 2 T3 0 (p++BI p.length i.1).length,.sr 3 T3 0 (ty++BZ l i.1).length,.sr 4 CE 0 (ar++Cw p.length l i.1).length]),(2,.arr 3 T3 (p++BI p.length i.1)),(3,.arr 3 T3 (ty++BZ l i.1)),(4,.arr 86 CE (ar++Cw p.length l i.1))]⟩) (fun i=>l.length-i.1) ⟨0,Nat.zero_le _⟩ (AC [(1,.nm 1),(2,.nm 2),(3,.nm 3),(4,.nm 4)] rfl rfl ?_ ?_) (fun i=>?_)
 ·first|exact eN|refine eM ?_
  simp[BI,BZ,Cw]
 ·first|exact eN|refine eM ?_
 ·obtain⟨i,hi⟩:=i
  have hnl:=F9 p.length i
  have hns:=e9 p.length i
  have htl2:(BZ l i).length=i:=by unfold BZ;rw[List.length_map,List.length_take];omega
  have hal2:(Cw p.length l i).length=i:=by unfold Cw;rw[List.length_map,List.length_take];omega
  have hts:=fun h:i<l.length=>DE (fun x:AE=>x.1) l (0,[]) h
  have has:=fun h:i<l.length=>DE (fun x:AE=>Ap p.length x.2) l (0,[]) h
  simp only
  repeat'(first|exact trivial|refine eS rfl ?_|refine AB ?_|refine rX [0,1,4,5,6,7,9,15,16,17,18,46,47,48,49] hc ?_ ?_|refine rC ?_ ?_<;>intro AA<;>try(cases AA;done))
  ·exact AA
  ·refine⟨⟨by omega,by omega⟩,?_⟩
   rw[hnl]
   simp only[AP]
   omega
  ·have hi2:i<l.length:=Int.ofNat_lt.1 AA
   refine IQ drawsAny hc 9 [([1,2,3,4,5,6,7],8)] [0] (by kernel_rfl) (YV ?_ ?_)
   ·trivial
   ·refine hC hc [3] ?_ ?_
    ·rw[htl2]
     simp only[AP]
     omega
    ·refine zO [0,1,4,5,6,7,9,15,16,17,18,46,47,48,49] hc ?_ ?_ ?_
     ·trivial
     ·trivial
     ·have hts2:=hts hi2
      have has2:=has hi2
      have eP:p++BI p.length i++[(p.length:Int)+(i:Int)]=p++BI p.length (i+1):=by
       rw[hns,List.append_assoc]
       rfl
      have eT:ty++BZ l i++[(l.getD i (0,[])).1]=ty++BZ l (i+1):=by
       unfold BZ
       rw[hts2,List.append_assoc]
      have lP:p.length+(BI p.length i).length+1=(p++BI p.length (i+1)).length:=by rw[List.length_append,F9,F9];omega
      have lT:ty.length+(BZ l i).length+1=(ty++BZ l (i+1)).length:=by rw[←eT,List.length_append,List.length_append,List.length_singleton]
      have hrng:=GV hl i
      have hxl:(l.getD i (0,[])).2.length≤100000:=(hl.2 _ (AD l (0,[]) hi2)).1
      repeat'(first|exact trivial|refine eS rfl ?_|refine AB ?_|refine rX [0,1,4,5,6,7,9,15,16,17,18,46,47,48,49] hc ?_ ?_|refine rC ?_ ?_<;>intro AA<;>try(cases AA;done))
      rw[eP,eT,lP,lT]
      generalize hxd:(l.getD i (0,[])).2=xs at *
      refine AL (ι:={k:Nat//k≤xs.length}) (fun k=>⟨[(0,.bp 1 [] 0),(4,.p (.int .i64) (p.length:Int)),(7,.sr 61 Aq 0 (Ap p.length (xs.take k.1)).length),(15,.p Fl l),(16,.p (.int .i64) (l.length:Int)),(17,.p (.int .i64) (i:Int)),(46,.p CE xs),(47,.p (.int .i64) (xs.length:Int)),(48,.p (.int .i64) (k.1:Int))],[(1,.box 94 true [.p GD h,.sr 2 T3 0 (p++BI p.length (i+1)).length,.sr 3 T3 0 (ty++BZ l (i+1)).length,.sr 4 CE 0 (ar++Cw p.length l i).length]),(2,.arr 3 T3 (p++BI p.length (i+1))),(3,.arr 3 T3 (ty++BZ l (i+1))),(4,.arr 86 CE (ar++Cw p.length l i)),(61,.arr 108 Aq (Ap p.length (xs.take k.1)))]⟩) (fun k=>xs.length-k.1) ⟨0,Nat.zero_le _⟩ (AC [(1,.nm 1),(2,.nm 2),(3,.nm 3),(4,.nm 4),(61,.nil)] rfl rfl ?_ ?_) (fun k=>?_)
      ·first|exact eN|refine eM ?_
       rfl
      ·first|exact eN|refine eM ?_
       rfl
      ·obtain⟨k,hk⟩:=k
       have hsl:(Ap p.length (xs.take k)).length=k:=by unfold Ap;rw[List.length_map,List.length_take];omega
       have hss:=fun h:k<xs.length=>DE (fun a:Int×Int=>(a.1,a.2+(p.length:Int))) xs (0,0) h
       have hkr:=fun h:k<xs.length=>hrng _ (AD xs (0,0) h)
       simp only
       repeat'(first|exact trivial|refine eS rfl ?_|refine AB ?_|refine rX [0,1,4,5,6,7,9,15,16,17,18,46,47,48,49] hc ?_ ?_|refine rC ?_ ?_<;>intro AA<;>try(cases AA;done))
       ·exact AA
       ·have hk2:k<xs.length:=Int.ofNat_lt.1 AA
        have hkr2:=hkr hk2
        refine⟨⟨by omega,by omega⟩,?_⟩
        rw[hsl]
        simp only[AP]
        omega
       ·omega
       ·have hk2:k<xs.length:=Int.ofNat_lt.1 AA
        have hss2:Ap p.length (xs.take (k+1))=Ap p.length (xs.take k)++[((xs.getD k (0,0)).1,(xs.getD k (0,0)).2+(p.length:Int))]:=hss hk2
        refine⟨⟨k+1,hk2⟩,by simp only;omega,AC [(1,.nm 1),(2,.nm 2),(3,.nm 3),(4,.nm 4),(61,.nm 61)] rfl rfl ?_ ?_⟩
        ·simp only[hss2]
         first|exact eN|refine eM ?_
        ·simp only[hss2]
         first|exact eN|refine eM ?_
       ·rw[hal2]
        simp only[AP]
        omega
       ·omega
       ·have hk2:xs.take k=xs:=List.take_of_length_le (Int.ofNat_le.1 AA)
        rw[hk2]
        have eA:ar++Cw p.length l i++[Ap p.length xs]=ar++Cw p.length l (i+1):=by
         unfold Cw
         rw[has2,List.append_assoc]
        refine⟨⟨i+1,hi2⟩,by simp only;omega,AC [(1,.nm 1),(2,.nm 2),(3,.nm 3),(4,.nm 4)] rfl rfl ?_ ?_⟩
        ·simp only[←eA]
         first|exact eN|refine eM ?_
        ·first|exact eN|refine eM ?_
  ·have hi2:i=l.length:=by omega
   subst hi2
   refine Ev.ent (σ':=⟨[],Q2 h (p++BI p.length l.length) (ty++BZ l l.length) (ar++Cw p.length l l.length)⟩) ?_ (AC [(1,.nm 1),(2,.nm 2),(3,.nm 3),(4,.nm 4)] rfl rfl ?_ ?_)
   ·exact BE hc [] rfl (.inr rfl) (.raw (.tuple #[])) rfl ⟨rfl,rfl⟩
   ·unfold Q2
    first|exact eN|refine eM ?_
   ·first|exact eN|refine eM ?_
end
/- Functions of unify.classes: join's merge. -/
section
attribute [local go_sem] n8
def Bf:List (Int×Int)→List (Int×Int)→List (Int×Int)×List (Int×Int)
 | [],y=>(y,[])
 | a :: x,[]=>(a :: x,[])
 | a :: x,b :: y =>
  if a.1<b.1 then (a :: (Bf x (b :: y)).1,(Bf x (b :: y)).2)
  else if b.1<a.1 then (b :: (Bf (a :: x) y).1,(Bf (a :: x) y).2)
  else (a :: (Bf x y).1,(a.2,b.2) :: (Bf x y).2)
termination_by x y=>x.length+y.length
structure fA (xs ys:List (Int×Int)) (W0:List (Int×Int)) (s:(List (Int×Int)×List (Int×Int))×(List (Int×Int)×List (Int×Int)×Nat)):Prop where
 hi:s.2.2.2≤s.2.2.1.length
 both:s.2.1++(Bf s.1.1 s.1.2).1=(Bf xs ys).1
 wait:s.2.2.1.take s.2.2.2++(Bf s.1.1 s.1.2).2=W0++(Bf xs ys).2
 len:s.2.1.length+s.1.1.length+s.1.2.length≤xs.length+ys.length
 num:s.2.2.2+s.1.1.length≤W0.length+xs.length
theorem A6Y {x y:List (Int×Int)} (h0:0<x.length) (h:y.length=0∨(x.getD 0 (0,0)).1<(y.getD 0 (0,0)).1):Bf x y=(x.getD 0 (0,0) :: (Bf (x.drop 1) y).1,(Bf (x.drop 1) y).2):=by
 cases x with
 | nil=>simp at h0
 | cons a x =>
  cases y with
  | nil =>
   simp only[List.drop_succ_cons,List.drop_zero]
   cases x<;>simp[Bf]
  | cons b y =>
   have h:a.1<b.1:=by simpa using h
   simp only[List.drop_succ_cons,List.drop_zero]
   rw[Bf,if_pos h]
   rfl
theorem A6Z {x y:List (Int×Int)} (h0:0<y.length) (h:x.length=0∨(y.getD 0 (0,0)).1<(x.getD 0 (0,0)).1):Bf x y=(y.getD 0 (0,0) :: (Bf x (y.drop 1)).1,(Bf x (y.drop 1)).2):=by
 cases y with
 | nil=>simp at h0
 | cons b y =>
  cases x with
  | nil=>simp[Bf]
  | cons a x =>
   have h:b.1<a.1:=by simpa using h
   simp only[List.drop_succ_cons,List.drop_zero]
   rw[Bf,if_neg (by omega),if_pos h]
   rfl
theorem A3H {x y:List (Int×Int)} (h0:0<x.length) (h1:0<y.length) (h:(x.getD 0 (0,0)).1=(y.getD 0 (0,0)).1):Bf x y=(x.getD 0 (0,0) :: (Bf (x.drop 1) (y.drop 1)).1,((x.getD 0 (0,0)).2,(y.getD 0 (0,0)).2) :: (Bf (x.drop 1) (y.drop 1)).2):=by
 cases x with
 | nil=>simp at h0
 | cons a x =>
  cases y with
  | nil=>simp at h1
  | cons b y =>
   have h:a.1=b.1:=by simpa using h
   simp only[List.drop_succ_cons,List.drop_zero]
   rw[Bf,if_neg (by omega),if_neg (by omega)]
   rfl
section
variable {xs ys W0 x y bo V:List (Int×Int)} {k:Nat}
theorem A3I (h:fA xs ys W0 ((x,y),bo,V,k)) (h0:0<x.length) (hc:y.length=0∨(x.getD 0 (0,0)).1<(y.getD 0 (0,0)).1):fA xs ys W0 ((x.drop 1,y),bo++[x.getD 0 (0,0)],V,k):=by
 have e:=A6Y h0 hc
 obtain⟨h1,h2,h3,h4,h5⟩:=h
 simp only at h1 h2 h3 h4 h5
 rw[e]at h2 h3
 exact⟨h1,by rw[List.append_assoc];exact h2,h3,by simp only[List.length_append,List.length_singleton,List.length_drop];omega,by simp only[List.length_drop];omega⟩
theorem A3J (h:fA xs ys W0 ((x,y),bo,V,k)) (h0:0<y.length) (hc:x.length=0∨(y.getD 0 (0,0)).1<(x.getD 0 (0,0)).1):fA xs ys W0 ((x,y.drop 1),bo++[y.getD 0 (0,0)],V,k):=by
 have e:=A6Z h0 hc
 obtain⟨h1,h2,h3,h4,h5⟩:=h
 simp only at h1 h2 h3 h4 h5
 rw[e]at h2 h3
 exact⟨h1,by rw[List.append_assoc];exact h2,h3,by simp only[List.length_append,List.length_singleton,List.length_drop];omega,h5⟩
theorem A2b (h:fA xs ys W0 ((x,y),bo,V,k)) (h0:0<x.length) (h1:0<y.length) (hc:(x.getD 0 (0,0)).1=(y.getD 0 (0,0)).1):fA xs ys W0 ((x.drop 1,y.drop 1),bo++[x.getD 0 (0,0)],V.take k++[((x.getD 0 (0,0)).2,(y.getD 0 (0,0)).2)],k+1):=by
 have e:=A3H h0 h1 hc
 obtain⟨g1,h2,h3,h4,h5⟩:=h
 simp only at g1 h2 h3 h4 h5
 rw[e]at h2 h3
 have hl:(V.take k++[((x.getD 0 (0,0)).2,(y.getD 0 (0,0)).2)]).length=k+1:=by simp only[List.length_append,List.length_singleton,List.length_take];omega
 exact⟨by simp only[hl];omega,by rw[List.append_assoc];exact h2,by simp only;rw[List.take_of_length_le (by omega),List.append_assoc];exact h3,by simp only[List.length_append,List.length_singleton,List.length_drop];omega,by simp only[List.length_drop];omega⟩
end
def xU (h:AM) (p ty:List Int) (ar:List (List (Int×Int))) (W:List (Int×Int)) (hi:Nat):List (Nat×Obj) :=
 [(1,.box 94 true [.p GD h,.sr 2 T3 0 p.length,.sr 3 T3 0 ty.length,.sr 4 CE 0 ar.length]),(2,.arr 3 T3 p),(3,.arr 3 T3 ty),(4,.arr 86 CE ar),(5,.box 91 false [.bp 1 [] 0]),(6,.box 159 false [.sr 7 IT 0 hi]),(7,.arr 158 IT W)]
theorem xV (h:AM) (hh:h.1.length≤100000) (hhc:∀x∈h.1,x.2.1.length≤100000) (p ty:List Int) (ar:List (List (Int×Int))) (W:List (Int×Int)) (hi:Nat) (hhi:hi≤W.length) (hhb:hi≤100000000000) {a b:Int} (a0:0≤a) (a1:a<(p.length:Int)) (b0:0≤b) (b1:b<(p.length:Int)) (htl:ty.length=p.length) (hal:ar.length=p.length)
  (ta:0≤ty.getD a.toNat 0∧ty.getD a.toNat 0<(h.1.length:Int)) (tb:0≤ty.getD b.toNat 0∧ty.getD b.toNat 0<(h.1.length:Int)) (hla:(ar.getD a.toNat []).length≤10000000) (hlb:(ar.getD b.toNat []).length≤10000000) :
  B8 Tryz.prog 101 [.p T3 a,.p T3 b,.bp 5 [] 0,.bp 6 [] 0] (xU h p ty ar W hi) [1,5,6]
  (fun res objs'=>((CB h (ty.getD a.toNat 0) (ty.getD b.toNat 0)).2=false∧res=.p .bool false∧objs'=xU h p ty ar W hi) ∨
   ((CB h (ty.getD a.toNat 0) (ty.getD b.toNat 0)).2=true∧res=.p .bool true∧∃W' hi',hi'≤W'.length∧W'.take hi'=W.take hi++(Bf (ar.getD a.toNat []) (ar.getD b.toNat [])).2 ∧
    objs'=xU h (p.set b.toNat a) (ty.set a.toNat (CB h (ty.getD a.toNat 0) (ty.getD b.toNat 0)).1) (ar.set a.toNat (Bf (ar.getD a.toNat []) (ar.getD b.toNat [])).1) W' hi')):=by
 refine CQ Tryz.func101 (by kernel_rfl) rfl Tryz.ntmps101 (by simp only[List.length_cons,List.length_nil];omega) (by kernel_rfl) rfl rfl (AG [(76,n8)]) (AF A21 AJ) ?_
 intro w0 K O0 ρ0 hc hok1 hok2
 have a1t:a<(ty.length:Int):=by omega
 have b1t:b<(ty.length:Int):=by omega
 have a1r:a<(ar.length:Int):=by omega
 have b1r:b<(ar.length:Int):=by omega
 simp only[xU,BG]
 repeat'(first|exact trivial|refine eS rfl ?_|refine AB ?_|refine rX [0,1,2,3,6,7,8,9,10,11,35,71,94,122] hc ?_ ?_|refine rC ?_ ?_<;>intro AA<;>try(cases AA;done))
 ·refine⟨⟨a0,a1t⟩,⟨b0,b1t⟩,ta,tb,hh,hhc⟩
 ·refine Ev.ent (σ':=⟨[(6,.p .bool false)],xU h p ty ar W hi⟩) ?_ (AC [(1,.nm 1),(2,.nm 2),(3,.nm 3),(4,.nm 4),(5,.nm 5),(6,.nm 6),(7,.nm 7)] rfl rfl ?_ ?_)
  ·exact BE hc [.tmp 6] rfl (.inl rfl) (.p .bool false) eT (.inl ⟨AA,rfl,rfl⟩)
  ·unfold xU
   first|exact eN|refine eM ?_
  ·first|exact eN|refine eM ?_
 ·exact⟨b0,b1⟩
 ·exact⟨a0,a1t⟩
 ·exact⟨⟨a0,a1r⟩,b0,b1r⟩
 ·generalize ht:(CB h (ty.getD a.toNat 0) (ty.getD b.toNat 0)).1=t at *
  generalize hxs:ar.getD a.toNat []=xs at *
  generalize hys:ar.getD b.toNat []=ys at *
  refine AL (ι:={s:(List (Int×Int)×List (Int×Int))×(List (Int×Int)×List (Int×Int)×Nat)//fA xs ys (W.take hi) s}) (fun s=>⟨[(0,.p T3 a),(1,.p T3 b),(2,.bp 5 [] 0),(3,.bp 6 [] 0),(9,.p CE s.1.1.1),(10,.p CE s.1.1.2),(11,.sr 11 Aq 0 s.1.2.1.length)],[(1,.box 94 true [.p GD h,.sr 2 T3 0 p.length,.sr 3 T3 0 ty.length,.sr 4 CE 0 ar.length]),(2,.arr 3 T3 (p.set b.toNat a)),(3,.arr 3 T3 (ty.set a.toNat t)),(4,.arr 86 CE ar),(5,.box 91 false [.bp 1 [] 0]),(6,.box 159 false [.sr 7 IT 0 s.1.2.2.2]),(7,.arr 158 IT s.1.2.2.1),(11,.arr 108 Aq s.1.2.1)]⟩) (fun s=>s.1.1.1.length+s.1.1.2.length) ⟨((xs,ys),([],W,hi)),hhi,rfl,rfl,by simp,by simp only[List.length_take];omega⟩ (AC [(1,.nm 1),(2,.nm 2),(3,.nm 3),(4,.nm 4),(5,.nm 5),(6,.nm 6),(7,.nm 7),(11,.nil)] rfl rfl ?_ ?_) (fun s=>?_)
  ·first|exact eN|refine eM ?_
  ·first|exact eN|refine eM ?_
  ·obtain⟨⟨⟨x,y⟩,bo,V,k⟩,hm⟩:=s
   have hk1:=hm.len
   have hk2:=hm.num
   have hk3:=hm.hi
   simp only[List.length_take]at hk1 hk2 hk3 ⊢
   repeat'(first|exact trivial|refine eS rfl ?_|refine AB ?_|refine rX [0,1,2,3,6,7,8,9,10,11,35,71,94,122] hc ?_ ?_|refine rC ?_ ?_<;>intro AA<;>try(cases AA;done))
   ·refine⟨fun h=>?_,fun h=>?_⟩
    ·rw[Bool.and_eq_true,decide_eq_true_eq]at h
     exact h.2
    ·rw[Bool.and_eq_true,Bool.not_eq_true',beq_eq_false_iff_ne]at h
     have h9:=h.1
     have h8:y.length≠0:=fun e=>h9 (by rw[e];rfl)
     exact Int.ofNat_lt.2 (Nat.pos_of_ne_zero h8)
   ·have hx0:0<x.length:=by
     rcases AA with AA|AA
     ·omega
     ·exact Int.ofNat_lt.1 AA.1
    have hcx:y.length=0∨(x.getD 0 (0,0)).1<(y.getD 0 (0,0)).1:=by
     rcases AA with AA|AA
     ·exact .inl (Int.ofNat.inj AA)
     ·exact .inr AA.2
    refine IQ drawsAny hc 9 [([0,1,2,3,4],5),([],8)] [6,7] (by kernel_rfl) (YV ?_ ?_)
    ·exact⟨Int.ofNat_lt.2 hx0,Int.ofNat_le.2 hx0⟩
    ·refine hC hc [11] ?_ ?_
     ·simp only[AP];omega
     ·refine YV ?_ ?_
      ·exact Int.ofNat_le.2 hx0
      ·refine hC hc [] ?_ ?_
       ·trivial
       ·refine zO [0,1,2,3,6,7,8,9,10,11,35,71,94,122] hc ?_ ?_ ?_
        ·exact Int.ofNat_le.2 hx0
        ·trivial
        ·repeat'(first|exact trivial|refine eS rfl ?_|refine AB ?_|refine rX [0,1,2,3,6,7,8,9,10,11,35,71,94,122] hc ?_ ?_|refine rC ?_ ?_<;>intro AA<;>try(cases AA;done))
         refine⟨⟨((x.drop 1,y),bo++[x.getD 0 (0,0)],V,k),A3I hm hx0 hcx⟩,by simp only[List.length_drop];omega,AC [(1,.nm 1),(2,.nm 2),(3,.nm 3),(4,.nm 4),(5,.nm 5),(6,.nm 6),(7,.nm 7),(11,.nm 11)] rfl rfl ?_ ?_⟩
         ·first|exact eN|refine eM ?_
         ·first|exact eN|refine eM ?_
   ·have h8:y.length≠0:=fun e=>AA.1 (by rw[e];rfl)
    have h7:0<y.length:=Nat.pos_of_ne_zero h8
    refine⟨fun h=>Int.ofNat_lt.2 h7,fun h=>?_⟩
    ·rw[Bool.not_eq_true',beq_eq_false_iff_ne]at h
     have h8:x.length≠0:=fun e=>h (by rw[e];rfl)
     exact Int.ofNat_lt.2 (Nat.pos_of_ne_zero h8)
   ·have hy0:0<y.length:=Nat.pos_of_ne_zero fun e=>(by assumption:¬_∧_).1 (by rw[e];rfl)
    have hcy:x.length=0∨(y.getD 0 (0,0)).1<(x.getD 0 (0,0)).1:=by
     rcases AA with AA|AA
     ·exact .inl (Int.ofNat.inj AA)
     ·exact .inr AA
    refine IQ drawsAny hc 9 [([0,1,2,3,4],5),([],8)] [6,7] (by kernel_rfl) (YV ?_ ?_)
    ·exact⟨Int.ofNat_lt.2 hy0,Int.ofNat_le.2 hy0⟩
    ·refine hC hc [11] ?_ ?_
     ·simp only[AP];omega
     ·refine YV ?_ ?_
      ·exact Int.ofNat_le.2 hy0
      ·refine hC hc [] ?_ ?_
       ·trivial
       ·refine zO [0,1,2,3,6,7,8,9,10,11,35,71,94,122] hc ?_ ?_ ?_
        ·exact Int.ofNat_le.2 hy0
        ·trivial
        ·repeat'(first|exact trivial|refine eS rfl ?_|refine AB ?_|refine rX [0,1,2,3,6,7,8,9,10,11,35,71,94,122] hc ?_ ?_|refine rC ?_ ?_<;>intro AA<;>try(cases AA;done))
         refine⟨⟨((x,y.drop 1),bo++[y.getD 0 (0,0)],V,k),A3J hm hy0 hcy⟩,by simp only[List.length_drop];omega,AC [(1,.nm 1),(2,.nm 2),(3,.nm 3),(4,.nm 4),(5,.nm 5),(6,.nm 6),(7,.nm 7),(11,.nm 11)] rfl rfl ?_ ?_⟩
         ·first|exact eN|refine eM ?_
         ·first|exact eN|refine eM ?_
   ·rename_i hcy
    have hx0:0<x.length:=Nat.pos_of_ne_zero fun e=>AA.1 (by rw[e];rfl)
    have hy0:0<y.length:=Nat.pos_of_ne_zero fun e=>hcy.1 (by rw[e];rfl)
    refine⟨Int.ofNat_lt.2 hx0,Int.ofNat_lt.2 hy0,?_⟩
    simp only[AP]
    omega
   ·rename_i hcy
    have hx0:0<x.length:=Nat.pos_of_ne_zero fun e=>AA.1 (by rw[e];rfl)
    have hy0:0<y.length:=Nat.pos_of_ne_zero fun e=>hcy.1 (by rw[e];rfl)
    have he:(x.getD 0 (0,0)).1=(y.getD 0 (0,0)).1:=Int.le_antisymm AA.2 (hcy.2 (Int.ofNat_lt.2 hx0))
    refine IQ drawsAny hc 12 [([0,1,2,3,4],5),([],10),([6,7],11)] [8,9] (by kernel_rfl) (YV ?_ ?_)
    ·exact⟨Int.ofNat_lt.2 hx0,Int.ofNat_le.2 hx0,Int.ofNat_le.2 hy0⟩
    ·refine hC hc [11] ?_ ?_
     ·simp only[AP];omega
     ·refine YV ?_ ?_
      ·exact⟨Int.ofNat_le.2 hx0,Int.ofNat_le.2 hy0⟩
      ·refine hC hc [] ?_ ?_
       ·trivial
       ·refine YV ?_ ?_
        ·exact⟨Int.ofNat_le.2 hx0,Int.ofNat_le.2 hy0⟩
        ·refine hC hc [] ?_ ?_
         ·trivial
         ·refine zO [0,1,2,3,6,7,8,9,10,11,35,71,94,122] hc ?_ ?_ ?_
          ·exact Int.ofNat_le.2 hy0
          ·trivial
          ·repeat'(first|exact trivial|refine eS rfl ?_|refine AB ?_|refine rX [0,1,2,3,6,7,8,9,10,11,35,71,94,122] hc ?_ ?_|refine rC ?_ ?_<;>intro AA<;>try(cases AA;done))
           refine⟨⟨((x.drop 1,y.drop 1),bo++[x.getD 0 (0,0)],V.take k++[((x.getD 0 (0,0)).2,(y.getD 0 (0,0)).2)],k+1),A2b hm hx0 hy0 he⟩,by simp only[List.length_drop];omega,AC [(1,.nm 1),(2,.nm 2),(3,.nm 3),(4,.nm 4),(5,.nm 5),(6,.nm 6),(7,.nm 7),(11,.nm 11)] rfl rfl ?_ ?_⟩
           ·first|exact eN|refine eM ?_
           ·first|exact eN|refine eM ?_
   ·exact⟨a0,a1r⟩
   ·have hx0:x=[]:=List.eq_nil_of_length_eq_zero (by omega)
    have hy0:y=[]:=List.eq_nil_of_length_eq_zero (by omega)
    subst hx0 hy0
    have hb:=hm.both
    have hw:=hm.wait
    simp only[Bf,List.append_nil]at hb hw
    refine Ev.ent (σ':=⟨[(6,.p .bool true)],xU h (p.set b.toNat a) (ty.set a.toNat t) (ar.set a.toNat bo) V k⟩) ?_ (AC [(1,.nm 1),(2,.nm 2),(3,.nm 3),(4,.nm 4),(5,.nm 5),(6,.nm 6),(7,.nm 7)] rfl rfl ?_ ?_)
    ·exact BE hc [.tmp 6] rfl (.inl rfl) (.p .bool true) eT (.inr ⟨by assumption,rfl,V,k,hk3,hw,by rw[hb];rfl⟩)
    ·unfold xU
     simp only[List.length_set]
     first|exact eN|refine eM ?_
    ·first|exact eN|refine eM ?_
end
/- Plain: what join keeps: the classes are the least that make the pairs equal, and what they have is asked by all. -/
section
theorem Jv {h:AM} (hk:WB h) {a b c:Int} (a0:0≤a) (a1:a<(h.1.length:Int)) (b0:0≤b) (b1:b<(h.1.length:Int)) (c0:0≤c) (c1:c<(h.1.length:Int)) (h1:CH h a b=true) (h2:CH h b c=true):CH h a c=true :=
 (CM hk a0 a1 c0 c1).2 fun i hi=>(CM hk a0 a1 b0 b1).1 h1 i ((CM hk b0 b1 c0 c1).1 h2 i hi)
/-! Merged arcs -/
theorem Ou:∀ {x y:List (Int×Int)} {a:Int×Int},a∈x→a∈(Bf x y).1
 | [],_,_,h=>by cases h
 | b :: x,[],a,h=>by simpa[Bf] using h
 | b :: x,c :: y,a,h=>by
  rw[Bf]
  split
  ·rcases List.mem_cons.1 h with rfl|h
   ·simp
   ·exact List.mem_cons_of_mem _ (Ou h)
  ·split
   ·exact List.mem_cons_of_mem _ (Ou h)
   ·rcases List.mem_cons.1 h with rfl|h
    ·simp
    ·exact List.mem_cons_of_mem _ (Ou h)
termination_by x y=>x.length+y.length
theorem MC:∀ {x y:List (Int×Int)} {a:Int×Int},a∈y→a∈(Bf x y).1∨∃t,(a.1,t)∈(Bf x y).1∧(t,a.2)∈(Bf x y).2
 | [],y,a,h=>by
  left
  simpa[Bf] using h
 | b :: x,[],a,h=>by cases h
 | b :: x,c :: y,a,h=>by
  rw[Bf]
  split
  ·rcases MC (x:=x) h with g|⟨t,g1,g2⟩
   ·exact .inl (List.mem_cons_of_mem _ g)
   ·exact .inr ⟨t,List.mem_cons_of_mem _ g1,g2⟩
  ·split
   ·rcases List.mem_cons.1 h with rfl|h
    ·left;simp
    ·rcases MC (x:=b :: x) h with g|⟨t,g1,g2⟩
     ·exact .inl (List.mem_cons_of_mem _ g)
     ·exact .inr ⟨t,List.mem_cons_of_mem _ g1,g2⟩
   ·rcases List.mem_cons.1 h with rfl|h
    ·right
     exact⟨b.2,by rw[show a.1=b.1 by omega];simp,by simp⟩
    ·rcases MC (x:=x) h with g|⟨t,g1,g2⟩
     ·exact .inl (List.mem_cons_of_mem _ g)
     ·exact .inr ⟨t,List.mem_cons_of_mem _ g1,List.mem_cons_of_mem _ g2⟩
termination_by x y=>x.length+y.length
theorem ID:∀ {x y:List (Int×Int)} {a:Int×Int},a∈(Bf x y).1→a∈x∨a∈y
 | [],y,a,h=>by
  right
  simpa[Bf] using h
 | b :: x,[],a,h=>by
  left
  simpa[Bf] using h
 | b :: x,c :: y,a,h=>by
  rw[Bf]at h
  split at h
  ·rcases List.mem_cons.1 h with rfl|h
   ·left;simp
   ·rcases ID h with g|g
    ·exact .inl (List.mem_cons_of_mem _ g)
    ·exact .inr g
  ·split at h
   ·rcases List.mem_cons.1 h with rfl|h
    ·right;simp
    ·rcases ID h with g|g
     ·exact .inl g
     ·exact .inr (List.mem_cons_of_mem _ g)
   ·rcases List.mem_cons.1 h with rfl|h
    ·left;simp
    ·rcases ID h with g|g
     ·exact .inl (List.mem_cons_of_mem _ g)
     ·exact .inr (List.mem_cons_of_mem _ g)
termination_by x y=>x.length+y.length
theorem Ov:∀ {x y:List (Int×Int)} {q:Int×Int},q∈(Bf x y).2→∃e,(e,q.1)∈x∧(e,q.2)∈y
 | [],y,q,h=>by simp[Bf]at h
 | b :: x,[],q,h=>by simp[Bf]at h
 | b :: x,c :: y,q,h=>by
  rw[Bf]at h
  split at h
  ·obtain⟨e,h1,h2⟩:=Ov h
   exact⟨e,List.mem_cons_of_mem _ h1,h2⟩
  ·split at h
   ·obtain⟨e,h1,h2⟩:=Ov h
    exact⟨e,h1,List.mem_cons_of_mem _ h2⟩
   ·rcases List.mem_cons.1 h with rfl|h
    ·exact⟨b.1,by simp,by rw[show b.1=c.1 by omega];simp⟩
    ·obtain⟨e,h1,h2⟩:=Ov h
     exact⟨e,List.mem_cons_of_mem _ h1,List.mem_cons_of_mem _ h2⟩
termination_by x y=>x.length+y.length
theorem Ru:∀ {x y:List (Int×Int)},(Bf x y).2.length≤x.length
 | [],y=>by simp[Bf]
 | b :: x,[]=>by simp[Bf]
 | b :: x,c :: y=>by
  rw[Bf]
  split
  ·have:=Ru (x:=x) (y:=c :: y)
   simp only[List.length_cons]
   omega
  ·split
   ·exact Ru (x:=b :: x) (y:=y)
   ·have:=Ru (x:=x) (y:=y)
    simp only[List.length_cons]
    omega
termination_by x y=>x.length+y.length
abbrev KN (l:List (Int×Int)):Prop:=l.Pairwise (fun a b=>a.1<b.1)
theorem Rv:∀ {x y:List (Int×Int)},KN x→KN y→KN (Bf x y).1
 | [],y,_,h=>by simpa[Bf] using h
 | b :: x,[],h,_=>by simpa[Bf] using h
 | b :: x,c :: y,hx,hy=>by
  have hx2:=List.pairwise_cons.1 hx
  have hy2:=List.pairwise_cons.1 hy
  rw[Bf]
  split
  ·rename_i hc
   refine List.pairwise_cons.2 ⟨fun a ha=>?_,Rv hx2.2 hy⟩
   rcases ID ha with g|g
   ·exact hx2.1 a g
   ·rcases List.mem_cons.1 g with rfl|g
    ·exact hc
    ·have:=hy2.1 a g
     omega
  ·split
   ·rename_i hc
    refine List.pairwise_cons.2 ⟨fun a ha=>?_,Rv hx hy2.2⟩
    rcases ID ha with g|g
    ·rcases List.mem_cons.1 g with rfl|g
     ·exact hc
     ·have:=hx2.1 a g
      omega
    ·exact hy2.1 a g
   ·refine List.pairwise_cons.2 ⟨fun a ha=>?_,Rv hx2.2 hy2.2⟩
    rcases ID ha with g|g
    ·exact hx2.1 a g
    ·have:=hy2.1 a g
     omega
termination_by x y=>x.length+y.length
/-! Classes joined -/
theorem A2c {p:List Int} {rk:Int→Nat} (hp:Fo p rk) {a b:Int} (a0:0≤a) (b0:0≤b) (b1:b<(p.length:Int)) (ha:DH p a=a) (hb:DH p b=b) (hab:a≠b) {x r:Int} (x0:0≤x) (x1:x<(p.length:Int)) (h:Rt p x r):Rt (p.set b.toNat a) x (if r=b then a else r):=by
 have hbase:Rt (p.set b.toNat a) a a:=.base (by rw[Ci b0 b1 a a0,if_neg hab];exact ha)
 induction h with
 | @base n hn =>
  split
  ·rename_i e
   rw[e]
   exact .step (by rw[Ci b0 b1 b b0,if_pos rfl];exact hab) (by rw[Ci b0 b1 b b0,if_pos rfl];exact hbase)
  ·rename_i e
   exact .base (by rw[Ci b0 b1 n x0,if_neg e];exact hn)
 | @step n r hn _ ih =>
  have hnb:n≠b:=fun e=>hn (e▸hb)
  have hr:=hp.rng n x0 x1
  exact .step (by rw[Ci b0 b1 n x0,if_neg hnb];exact hn) (by rw[Ci b0 b1 n x0,if_neg hnb];exact ih hr.1 hr.2)
theorem A2d {p:List Int} {rk:Int→Nat} (hp:Fo p rk) {a b:Int} (a0:0≤a) (a1:a<(p.length:Int)) (b0:0≤b) (b1:b<(p.length:Int)) (ha:DH p a=a) (hb:DH p b=b) (hab:a≠b):∃rk',Fo (p.set b.toNat a) rk':=by
 classical
 refine⟨fun x=>if Rt p x b then rk x+rk a+1 else rk x,fun n n0 n1=>?_,fun n n0 n1 hn=>?_⟩
 ·rw[List.length_set]at n1 ⊢
  rw[Ci b0 b1 n n0]
  split
  ·exact⟨a0,a1⟩
  ·exact hp.rng n n0 n1
 ·rw[List.length_set]at n1
  rw[Ci b0 b1 n n0]at hn ⊢
  by_cases e:n=b
  ·subst e
   rw[if_pos rfl]
   have h1:¬Rt p a n:=fun g=>hab (g.det (.base ha)).symm
   rw[if_neg h1,if_pos (.base hb)]
   omega
  ·rw[if_neg e]at hn ⊢
   have hd:=hp.dec n n0 n1 hn
   have hiff:Rt p n b↔Rt p (DH p n) b:=by
    constructor
    ·intro g
     cases g with
     | base g=>exact absurd g hn
     | step _ g=>exact g
    ·exact fun g=>.step hn g
   by_cases g:Rt p n b
   ·rw[if_pos g,if_pos (hiff.1 g)]
    omega
   ·rw[if_neg g,if_neg (fun g2=>g (hiff.2 g2))]
    exact hd
inductive EG (n:Nat) (p:List Int) (W:List (Int×Int)):Int→Int→Prop
 | cls {x y r:Int} (x0:0≤x) (x1:x<(n:Int)) (y0:0≤y) (y1:y<(n:Int)) (h:Rt p x r) (g:Rt p y r):EG n p W x y
 | wt {x y:Int} (h:(x,y)∈W):EG n p W x y
 | symm {x y:Int} (h:EG n p W x y):EG n p W y x
 | trans {x y z:Int} (h:EG n p W x y) (g:EG n p W y z):EG n p W x z
theorem EG.mono {n:Nat} {p q:List Int} {W V:List (Int×Int)} (h1:∀x y r,0≤x→x<(n:Int)→0≤y→y<(n:Int)→Rt p x r→Rt p y r→EG n q V x y) (h2:∀x y,(x,y)∈W→EG n q V x y) {x y:Int} (h:EG n p W x y):EG n q V x y:=by
 induction h with
 | cls x0 x1 y0 y1 h g=>exact h1 _ _ _ x0 x1 y0 y1 h g
 | wt h=>exact h2 _ _ h
 | symm _ ih=>exact .symm ih
 | trans _ _ ih1 ih2=>exact .trans ih1 ih2
structure X3 (h:AM) (N:List AE) (P:List (Int×Int)) (X:List AE) (v:Int→Int):Prop where
 rng:∀x,0≤x→x<(N.length:Int)→0≤v x∧v x<(X.length:Int)
 ty:∀x,0≤x→x<(N.length:Int)→CH h (N.getD x.toNat (0,[])).1 (X.getD (v x).toNat (0,[])).1=true
 arc:∀x,0≤x→x<(N.length:Int)→∀a∈AR N x,DI (AR X (v x)) a.1=v a.2
 eq:∀q∈P,v q.1=v q.2
structure JX (h:AM) (X:List AE) (v:Int→Int) (n:Nat) (p ty:List Int) (ar:List (List (Int×Int))) (W:List (Int×Int)):Prop where
 cls:∀x r,0≤x→x<(n:Int)→Rt p x r→v x=v r
 wt:∀w∈W,v w.1=v w.2
 ty:∀r,0≤r→r<(n:Int)→DH p r=r→CH h (ty.getD r.toNat 0) (X.getD (v r).toNat (0,[])).1=true
 arc:∀r,0≤r→r<(n:Int)→DH p r=r→∀a∈ar.getD r.toNat [],DI (AR X (v r)) a.1=v a.2
def DN (N:List AE):List Int:=N.flatMap fun x=>x.2.map (·.1)
structure JI (h:AM) (N:List AE) (P:List (Int×Int)) (p ty:List Int) (ar:List (List (Int×Int))) (W:List (Int×Int)):Prop where
 nty:D7 h N
 fo:∃rk,Fo p rk
 lp:p.length=N.length
 lt:ty.length=N.length
 la:ar.length=N.length
 wr:∀w∈W,(0≤w.1∧w.1<(N.length:Int))∧(0≤w.2∧w.2<(N.length:Int))
 tyr:∀x,0≤x→x<(N.length:Int)→0≤ty.getD x.toNat 0∧ty.getD x.toNat 0<(h.1.length:Int)
 arr:∀k,∀a∈ar.getD k [],(0≤a.2∧a.2<(N.length:Int))∧a.1∈DN N
 srt:∀k,KN (ar.getD k [])
 sp:∀q∈P,EG N.length p W q.1 q.2
 st:∀x r,0≤x→x<(N.length:Int)→Rt p x r→CH h (N.getD x.toNat (0,[])).1 (ty.getD r.toNat 0)=true
 sa:∀x r,0≤x→x<(N.length:Int)→Rt p x r→∀a∈AR N x,∃t,(a.1,t)∈ar.getD r.toNat []∧EG N.length p W a.2 t
 co:∀X v,D7 h X→X3 h N P X v→JX h X v N.length p ty ar W
theorem Fi {p:List Int} {rk:Int→Nat} (hp:Fo p rk) {x r:Int} (x0:0≤x) (x1:x<(p.length:Int)) (h:Rt p x r):0≤r∧r<(p.length:Int):=by
 obtain⟨s,hs,s0,s1⟩:=hp.root x0 x1
 rw[h.det hs]
 exact⟨s0,s1⟩
theorem Pu {p q:List Int} (h:ER p q) {r:Int} (r0:0≤r) (r1:r<(p.length:Int)):DH p r=r↔DH q r=r :=
 ⟨fun e=>((h.2 r r r0 r1).1 (.base e)).root,fun e=>((h.2 r r r0 r1).2 (.base e)).root⟩
theorem A2e {h:AM} {N:List AE} {P:List (Int×Int)} {p q ty:List Int} {ar:List (List (Int×Int))} {W:List (Int×Int)} (hs:ER p q) (hq:∃rk,Fo q rk) (hj:JI h N P p ty ar W):JI h N P q ty ar W:=by
 obtain⟨nty,fo,lp,lt,la,wr,tyr,arr,srt,sp,st,sa,co⟩:=hj
 have hiff:∀x r,0≤x→x<(N.length:Int)→(Rt p x r↔Rt q x r):=fun x r x0 x1=>hs.2 x r x0 (by rw[lp];exact x1)
 have hE:∀ {x y},EG N.length p W x y→EG N.length q W x y:=fun {x y} g=>g.mono (fun x y r x0 x1 y0 y1 h1 h2=>.cls x0 x1 y0 y1 ((hiff x r x0 x1).1 h1) ((hiff y r y0 y1).1 h2)) (fun _ _ h=>.wt h)
 refine⟨nty,hq,by rw[←hs.1];exact lp,lt,la,wr,tyr,arr,srt,fun q hq=>hE (sp q hq),fun x r x0 x1 hr=>st x r x0 x1 ((hiff x r x0 x1).2 hr),fun x r x0 x1 hr a ha=>?_,fun X v hX hv=>?_⟩
 ·obtain⟨t,h1,h2⟩:=sa x r x0 x1 ((hiff x r x0 x1).2 hr) a ha
  exact⟨t,h1,hE h2⟩
 ·obtain⟨c1,c2,c3,c4⟩:=co X v hX hv
  exact⟨fun x r x0 x1 hr=>c1 x r x0 x1 ((hiff x r x0 x1).2 hr),c2,fun r r0 r1 hr=>c3 r r0 r1 ((Pu hs r0 (by rw[lp];exact r1)).2 hr),fun r r0 r1 hr=>c4 r r0 r1 ((Pu hs r0 (by rw[lp];exact r1)).2 hr)⟩
section
variable {h:AM} {N:List AE} {P:List (Int×Int)} {p ty:List Int} {ar:List (List (Int×Int))} {W:List (Int×Int)} {s t a b:Int}
theorem oO (hj:JI h N P p ty ar (W++[(s,t)])) (hs:Rt p s a) (ht:Rt p t a):JI h N P p ty ar W:=by
 obtain⟨nty,fo,lp,lt,la,wr,tyr,arr,srt,sp,st,sa,co⟩:=hj
 have hw:=wr (s,t) (by simp)
 have hE:∀ {x y},EG N.length p (W++[(s,t)]) x y→EG N.length p W x y:=fun {x y} g=>g.mono (fun x y r x0 x1 y0 y1 h1 h2=>.cls x0 x1 y0 y1 h1 h2) (fun x y hxy=>by
  rcases List.mem_append.1 hxy with hxy|hxy
  ·exact .wt hxy
  ·have e:(x,y)=(s,t):=by simpa using hxy
   cases e
   exact .cls hw.1.1 hw.1.2 hw.2.1 hw.2.2 hs ht)
 refine⟨nty,fo,lp,lt,la,fun w hw=>wr w (List.mem_append_left _ hw),tyr,arr,srt,fun q hq=>hE (sp q hq),st,fun x r x0 x1 hr a ha=>?_,fun X v hX hv=>?_⟩
 ·obtain⟨u,h1,h2⟩:=sa x r x0 x1 hr a ha
  exact⟨u,h1,hE h2⟩
 ·obtain⟨c1,c2,c3,c4⟩:=co X v hX hv
  exact⟨c1,fun w hw=>c2 w (List.mem_append_left _ hw),c3,c4⟩
theorem X4 (hk:WB h) (hj:JI h N P p ty ar (W++[(s,t)])) (hs:Rt p s a) (ht:Rt p t b) {X:List AE} {v:Int→Int} (hX:D7 h X) (hv:X3 h N P X v) :
  v a=v b∧(CB h (ty.getD a.toNat 0) (ty.getD b.toNat 0)).2=true∧CH h (CB h (ty.getD a.toNat 0) (ty.getD b.toNat 0)).1 (X.getD (v a).toNat (0,[])).1=true:=by
 obtain⟨rk,fo⟩:=hj.fo
 obtain⟨⟨s0,s1⟩,t0,t1⟩:=hj.wr (s,t) (by simp)
 simp only at s0 s1 t0 t1
 have ra:=Fi fo s0 (by rw[hj.lp];exact s1) hs
 have rb:=Fi fo t0 (by rw[hj.lp];exact t1) ht
 rw[hj.lp]at ra rb
 obtain⟨c1,c2,c3,c4⟩:=hj.co X v hX hv
 have e1:=c1 s a s0 s1 hs
 have e2:=c1 t b t0 t1 ht
 have e3:v s=v t:=c2 (s,t) (by simp)
 have e:v a=v b:=by rw[←e1,←e2,e3]
 have g1:=c3 a ra.1 ra.2 hs.root
 have g2:=c3 b rb.1 rb.2 ht.root
 rw[←e]at g2
 have hva:=hv.rng a ra.1 ra.2
 have hx:=hX _ (AD X (0,[]) (k:=(v a).toNat) (by omega))
 have ta:=hj.tyr a ra.1 ra.2
 have tb:=hj.tyr b rb.1 rb.2
 obtain⟨m1,m2⟩:=(Z4 hk ta.1 ta.2 tb.1 tb.2).2 _ hx.1 hx.2 g1 g2
 exact⟨e,m1,m2⟩
theorem WQ {α:Type} {l:List α} {d v:α} {a r:Int} (a0:0≤a) (a1:a<(l.length:Int)) (r0:0≤r):(l.set a.toNat v).getD r.toNat d=if r=a then v else l.getD r.toNat d:=by
 by_cases e:r=a
 ·subst e
  rw[if_pos rfl,Ia _ _ _ (by omega)]
 ·rw[if_neg e,getD_set_ne _ _ _ (by omega)]
theorem aJ (hk:WB h) (hj:JI h N P p ty ar (W++[(s,t)])) (hs:Rt p s a) (ht:Rt p t b) (hab:a≠b) (hm:(CB h (ty.getD a.toNat 0) (ty.getD b.toNat 0)).2=true) :
  JI h N P (p.set b.toNat a) (ty.set a.toNat (CB h (ty.getD a.toNat 0) (ty.getD b.toNat 0)).1) (ar.set a.toNat (Bf (ar.getD a.toNat []) (ar.getD b.toNat [])).1) (W++(Bf (ar.getD a.toNat []) (ar.getD b.toNat [])).2):=by
 have hmt:=fun X v hX hv=>X4 (X:=X) (v:=v) hk hj hs ht hX hv
 obtain⟨nty,⟨rk,fo⟩,lp,lt,la,wr,tyr,arr,srt,sp,st,sa,co⟩:=hj
 obtain⟨⟨s0,s1⟩,t0,t1⟩:=wr (s,t) (by simp)
 simp only at s0 s1 t0 t1
 have ra:=Fi fo s0 (by rw[lp];exact s1) hs
 have rb:=Fi fo t0 (by rw[lp];exact t1) ht
 have ha:=hs.root
 have hb:=ht.root
 have hnew:=fun {x r:Int} (x0:0≤x) (x1:x<(N.length:Int)) (hx:Rt p x r)=>A2c fo ra.1 rb.1 rb.2 ha hb hab x0 (by rw[lp];exact x1) hx
 have hold:∀ {x r:Int},0≤x→x<(N.length:Int)→Rt (p.set b.toNat a) x r→∃r',Rt p x r'∧r=if r'=b then a else r':=fun {x r} x0 x1 hx=>by
  obtain⟨r',h1,-,-⟩:=fo.root x0 (by rw[lp];exact x1)
  exact⟨r',h1,hx.det (hnew x0 x1 h1)⟩
 have ta:=tyr a ra.1 (by rw[←lp];exact ra.2)
 have tb:=tyr b rb.1 (by rw[←lp];exact rb.2)
 obtain⟨q0,q1,q2,q3⟩:=(Z4 hk ta.1 ta.2 tb.1 tb.2).1 hm
 generalize hmt0:(CB h (ty.getD a.toNat 0) (ty.getD b.toNat 0)).1=m at *
 generalize hxs:ar.getD a.toNat []=xs at *
 generalize hys:ar.getD b.toNat []=ys at *
 have hst:EG N.length (p.set b.toNat a) (W++(Bf xs ys).2) s t:=by
  have h1:=hnew s0 s1 hs
  have h2:=hnew t0 t1 ht
  rw[if_neg hab]at h1
  rw[if_pos rfl]at h2
  exact .cls s0 s1 t0 t1 h1 h2
 have hE:∀ {x y},EG N.length p (W++[(s,t)]) x y→EG N.length (p.set b.toNat a) (W++(Bf xs ys).2) x y:=fun {x y} g=>g.mono (fun x y r x0 x1 y0 y1 h1 h2=>.cls x0 x1 y0 y1 (hnew x0 x1 h1) (hnew y0 y1 h2)) (fun x y hxy=>by
  rcases List.mem_append.1 hxy with hxy|hxy
  ·exact .wt (List.mem_append_left _ hxy)
  ·have e:(x,y)=(s,t):=by simpa using hxy
   cases e
   exact hst)
 have hty:=fun {r:Int} (r0:0≤r)=>WQ (l:=ty) (d:=0) (v:=m) ra.1 (by rw[lt,←lp];exact ra.2) r0
 have har:=fun {r:Int} (r0:0≤r)=>WQ (l:=ar) (d:=[]) (v:=(Bf xs ys).1) ra.1 (by rw[la,←lp];exact ra.2) r0
 refine⟨nty,A2d fo ra.1 ra.2 rb.1 rb.2 ha hb hab,by rw[List.length_set];exact lp,by rw[List.length_set];exact lt,by rw[List.length_set];exact la,fun w hw=>?_,fun x x0 x1=>?_,fun k y hy=>?_,fun k=>?_,fun q hq=>hE (sp q hq),fun x r x0 x1 hr=>?_,fun x r x0 x1 hr y hy=>?_,fun X v hX hv=>?_⟩
 ·rcases List.mem_append.1 hw with hw|hw
  ·exact wr w (List.mem_append_left _ hw)
  ·obtain⟨e,e1,e2⟩:=Ov hw
   rw[←hxs]at e1
   rw[←hys]at e2
   exact⟨(arr _ _ e1).1,(arr _ _ e2).1⟩
 ·rw[hty x0]
  split
  ·exact⟨q0,q1⟩
  ·exact tyr x x0 x1
 ·have h1:=har (r:=(k:Int)) (by omega)
  rw[Int.toNat_natCast]at h1
  rw[h1]at hy
  split at hy
  ·rcases ID hy with hy|hy
   ·rw[←hxs]at hy;exact arr _ _ hy
   ·rw[←hys]at hy;exact arr _ _ hy
  ·exact arr _ _ hy
 ·have h1:=har (r:=(k:Int)) (by omega)
  rw[Int.toNat_natCast]at h1
  rw[h1]
  split
  ·exact Rv (by rw[←hxs];exact srt _) (by rw[←hys];exact srt _)
  ·exact srt k
 ·obtain⟨r',h1,rfl⟩:=hold x0 x1 hr
  have hx:=nty _ (AD N (0,[]) (k:=x.toNat) (by omega))
  have hrr:=Fi fo x0 (by rw[lp];exact x1) h1
  by_cases e:r'=b
  ·rw[if_pos e,hty ra.1,if_pos rfl]
   exact Jv hk hx.1 hx.2 tb.1 tb.2 q0 q1 (by rw[←e];exact st x r' x0 x1 h1) q3
  ·rw[if_neg e,hty hrr.1]
   split
   ·rename_i e2
    exact Jv hk hx.1 hx.2 ta.1 ta.2 q0 q1 (by rw[←e2];exact st x r' x0 x1 h1) q2
   ·exact st x r' x0 x1 h1
 ·obtain⟨r',h1,rfl⟩:=hold x0 x1 hr
  have hrr:=Fi fo x0 (by rw[lp];exact x1) h1
  obtain⟨u,u1,u2⟩:=sa x r' x0 x1 h1 y hy
  by_cases e:r'=b
  ·rw[if_pos e,har ra.1,if_pos rfl]
   rw[e,hys]at u1
   rcases MC (x:=xs) u1 with g|⟨w,g1,g2⟩
   ·exact⟨u,g,hE u2⟩
   ·exact⟨w,g1,.trans (hE u2) (.symm (.wt (List.mem_append_right _ g2)))⟩
  ·rw[if_neg e,har hrr.1]
   split
   ·rename_i e2
    rw[e2,hxs]at u1
    exact⟨u,Ou u1,hE u2⟩
   ·exact⟨u,u1,hE u2⟩
 ·obtain⟨c1,c2,c3,c4⟩:=co X v hX hv
  obtain⟨e,-,m2⟩:=hmt X v hX hv
  have hroot:∀r,0≤r→r<(N.length:Int)→DH (p.set b.toNat a) r=r→r≠b∧DH p r=r:=fun r r0 r1 hr=>by
   rw[Ci rb.1 rb.2 r r0]at hr
   split at hr
   ·rename_i e;rw[e]at hr;exact absurd hr hab
   ·rename_i e;exact⟨e,hr⟩
  refine⟨fun x r x0 x1 hr=>?_,fun w hw=>?_,fun r r0 r1 hr=>?_,fun r r0 r1 hr y hy=>?_⟩
  ·obtain⟨r',h1,rfl⟩:=hold x0 x1 hr
   have:=c1 x r' x0 x1 h1
   split
   ·rename_i e2
    rw[this,e2,e]
   ·exact this
  ·rcases List.mem_append.1 hw with hw|hw
   ·exact c2 w (List.mem_append_left _ hw)
   ·obtain⟨f,e1,e2⟩:=Ov hw
    rw[←hxs]at e1
    rw[←hys]at e2
    have g1:=c4 a ra.1 (by rw[←lp];exact ra.2) ha _ e1
    have g2:=c4 b rb.1 (by rw[←lp];exact rb.2) hb _ e2
    rw[←g1,←g2,e]
  ·obtain⟨-,h2⟩:=hroot r r0 r1 hr
   rw[hty r0]
   split
   ·rename_i e2;rw[e2];exact m2
   ·exact c3 r r0 r1 h2
  ·obtain⟨-,h2⟩:=hroot r r0 r1 hr
   rw[har r0]at hy
   split at hy
   ·rename_i e2
    rw[e2]
    rcases ID hy with hy|hy
    ·exact c4 a ra.1 (by rw[←lp];exact ra.2) ha y (by rw[hxs];exact hy)
    ·rw[e]
     exact c4 b rb.1 (by rw[←lp];exact rb.2) hb y (by rw[hys];exact hy)
   ·exact c4 r r0 r1 h2 y hy
end
end
/- Functions of unify.classes: join. -/
section
theorem aK {l:List Nat} {f g:Nat→Bool} {b:Nat} (hn:l.Nodup) (hb:b∈l) (h1:f b=true) (h2:g b=false) (h:∀x∈l,x≠b→g x=f x):(l.filter g).length+1=(l.filter f).length:=by
 induction l with
 | nil=>cases hb
 | cons x l ih =>
  obtain⟨hx,hn2⟩:=List.nodup_cons.1 hn
  by_cases e:x=b
  ·subst e
   have:l.filter g=l.filter f:=List.filter_congr fun y hy=>h y (by simp[hy]) (fun e=>hx (e▸hy))
   rw[List.filter_cons,List.filter_cons,if_neg (by rw[h2];simp),if_pos h1,this]
   rfl
  ·have hb2:b∈l:=by
    rcases List.mem_cons.1 hb with g|g
    ·exact absurd g.symm e
    ·exact g
   have ih2:=ih hn2 hb2 (fun y hy=>h y (by simp[hy]))
   rw[List.filter_cons,List.filter_cons,h x (by simp) e]
   split
   ·simp only[List.length_cons];omega
   ·exact ih2
def nR (p:List Int):Nat:=((List.range p.length).filter fun k=>p.getD k 0==(k:Int)).length
theorem A70 (p:List Int):nR p≤p.length:=by
 have:=List.length_filter_le (fun k=>p.getD k 0==(k:Int)) (List.range p.length)
 rw[List.length_range]at this
 exact this
theorem oP {p q:List Int} (h:ER p q):nR q=nR p:=by
 unfold nR
 rw[←h.1]
 refine congrArg List.length (List.filter_congr fun k hk=>?_)
 have hk2:=List.mem_range.1 hk
 have:=Pu h (r:=(k:Int)) (by omega) (by omega)
 unfold DH at this
 rw[Int.toNat_natCast]at this
 rw[Bool.eq_iff_iff,beq_iff_eq,beq_iff_eq]
 exact this.symm
theorem A2f {p:List Int} {a b:Int} (b0:0≤b) (b1:b<(p.length:Int)) (hb:DH p b=b) (hab:a≠b):nR (p.set b.toNat a)+1=nR p:=by
 unfold nR
 rw[List.length_set]
 refine aK (b:=b.toNat) List.nodup_range (List.mem_range.2 (by omega)) ?_ ?_ fun x _ hx=>?_
 ·rw[beq_iff_eq]
  unfold DH at hb
  omega
 ·rw[Ia _ _ _ (by omega),beq_eq_false_iff_ne]
  omega
 ·rw[getD_set_ne _ _ _ (by omega)]
theorem Pv {α:Type} [DecidableEq α]:∀ {l l':List α},l.Nodup→(∀x∈l,x∈l')→l.length≤l'.length
 | [],_,_,_=>by simp
 | x :: l,l',hn,h=>by
  obtain⟨hx,hn2⟩:=List.nodup_cons.1 hn
  have hm:=h x (by simp)
  have:=Pv (l:=l) (l':=l'.erase x) hn2 (fun y hy=>(List.mem_erase_of_ne (fun e:y=x=>hx (by rw[←e];exact hy))).2 (h y (by simp[hy])))
  rw[List.length_erase_of_mem hm]at this
  have:=List.length_pos_of_mem hm
  simp only[List.length_cons]
  omega
theorem oQ {l:List (Int×Int)} (h:KN l) {S:List Int} (hs:∀a∈l,a.1∈S):l.length≤S.length:=by
 have hn:(l.map (·.1)).Nodup:=by
  unfold List.Nodup
  rw[List.pairwise_map]
  exact h.imp fun g=>by omega
 have:=Pv hn (l':=S) (fun x hx=>by
  obtain⟨a,ha,rfl⟩:=List.mem_map.1 hx
  exact hs a ha)
 rwa [List.length_map]at this
theorem aL {h:AM} {N:List AE} {P:List (Int×Int)} {p ty:List Int} {ar:List (List (Int×Int))} (hj:JI h N P p ty ar []) {a b:Int} (ha:0≤a∧a<(N.length:Int)) (hb:0≤b∧b<(N.length:Int)):JI h N (P++[(a,b)]) p ty ar [(a,b)]:=by
 obtain⟨nty,fo,lp,lt,la,wr,tyr,arr,srt,sp,st,sa,co⟩:=hj
 have hE:∀ {x y},EG N.length p [] x y→EG N.length p [(a,b)] x y:=fun {x y} g=>g.mono (fun x y r x0 x1 y0 y1 h1 h2=>.cls x0 x1 y0 y1 h1 h2) (fun x y hxy=>by cases hxy)
 refine⟨nty,fo,lp,lt,la,fun w hw=>?_,tyr,arr,srt,fun q hq=>?_,st,fun x r x0 x1 hr y hy=>?_,fun X v hX hv=>?_⟩
 ·have e:w=(a,b):=by simpa using hw
  subst e
  exact⟨ha,hb⟩
 ·rcases List.mem_append.1 hq with hq|hq
  ·exact hE (sp q hq)
  ·have e:q=(a,b):=by simpa using hq
   subst e
   exact .wt (by simp)
 ·obtain⟨u,h1,h2⟩:=sa x r x0 x1 hr y hy
  exact⟨u,h1,hE h2⟩
 ·obtain⟨c1,c2,c3,c4⟩:=co X v hX ⟨hv.rng,hv.ty,hv.arc,fun q hq=>hv.eq q (List.mem_append_left _ hq)⟩
  refine⟨c1,fun w hw=>?_,c3,c4⟩
  have e:w=(a,b):=by simpa using hw
  subst e
  exact hv.eq _ (by simp)
def Rw (h:AM) (p ty:List Int) (ar:List (List (Int×Int))):List (Nat×Obj):=[(101,.box 94 true [.p GD h,.sr 102 T3 0 p.length,.sr 103 T3 0 ty.length,.sr 104 CE 0 ar.length]),(102,.arr 3 T3 p),(103,.arr 3 T3 ty),(104,.arr 86 CE ar)]
theorem Rx (h:AM) (hk:WB h) {N:List AE} {P:List (Int×Int)} {p ty:List Int} {ar:List (List (Int×Int))} (hj:JI h N P p ty ar []) {a b:Int} (ha:0≤a∧a<(N.length:Int)) (hb:0≤b∧b<(N.length:Int)) (hN:N.length≤10000) (hF:(DN N).length≤1000000) :
  B8 Tryz.prog 61 [.bp 101 [] 0,.p T3 a,.p T3 b] (Rw h p ty ar) [101]
  (fun res objs'=>(res=.p .bool true∧∃p' ty' ar',objs'=Rw h p' ty' ar'∧JI h N (P++[(a,b)]) p' ty' ar' [])∨(res=.p .bool false∧(∃p' ty' ar',objs'=Rw h p' ty' ar')∧∀X v,D7 h X→¬X3 h N (P++[(a,b)]) X v)):=by
 refine CQ Tryz.func61 (by kernel_rfl) rfl Tryz.ntmps61 (by simp only[List.length_cons,List.length_nil];omega) (by kernel_rfl) rfl rfl (AG []) AJ ?_
 intro w0 K O0 ρ0 hc hok1 hok2
 have hh:h.1.length≤100000:=Nat.le_trans hk.2 (by omega)
 have hhc:∀x∈h.1,x.2.1.length≤100000:=fun x hx=>Nat.le_trans (hk.1.wid x.2.1 (List.mem_map.2 ⟨x,hx,rfl⟩)) (by omega)
 have hj0:=aL hj ha hb
 generalize hQ:P++[(a,b)]=Q at *
 have hBB:N.length*((DN N).length+1)≤10000*1000001:=Nat.mul_le_mul hN (by omega)
 simp only[Rw,BG]
 repeat'(first|exact trivial|refine eS rfl ?_|refine AB ?_|refine rX [0,1,2,3,6,7,8,9,10,11,19,48] hc ?_ ?_|refine rC ?_ ?_<;>intro AA<;>try(cases AA;done))
 refine AL (ι:={s:(List Int×List Int×List (List (Int×Int)))×(List (Int×Int)×Nat)//JI h N Q s.1.1 s.1.2.1 s.1.2.2 (s.2.1.take s.2.2)∧s.2.2≤s.2.1.length∧nR s.1.1*((DN N).length+1)+s.2.2≤N.length*((DN N).length+1)+1}) (fun s=>⟨[(3,.bp 3 [] 0),(7,.bp 7 [] 0),(8,.clo 101 [3,7])],[(101,.box 94 true [.p GD h,.sr 102 T3 0 s.1.1.1.length,.sr 103 T3 0 s.1.1.2.1.length,.sr 104 CE 0 s.1.1.2.2.length]),(102,.arr 3 T3 s.1.1.1),(103,.arr 3 T3 s.1.1.2.1),(104,.arr 86 CE s.1.1.2.2),(3,.box 91 false [.bp 101 [] 0]),(7,.box 159 false [.sr 15 IT 0 s.1.2.2]),(15,.arr 158 IT s.1.2.1)]⟩) (fun s=>nR s.1.1.1*((DN N).length+1)+s.1.2.2) ⟨((p,ty,ar),([(a,b)],1)),hj0,by simp,by have:=Nat.mul_le_mul_right ((DN N).length+1) (A70 p);rw[hj.lp]at this;simp only;omega⟩ (AC [(101,.nm 101),(102,.nm 102),(103,.nm 103),(104,.nm 104),(3,.nm 3),(7,.nm 7),(15,.nm 15)] rfl rfl ?_ ?_) (fun s=>?_)
 ·first|exact eN|refine eM ?_
 ·first|exact eN|refine eM ?_
 ·obtain⟨⟨⟨q,tq,aq⟩,V,k⟩,hJ,hkl,hB⟩:=s
  simp only at hJ hkl hB ⊢
  repeat'(first|exact trivial|refine eS rfl ?_|refine AB ?_|refine rX [0,1,2,3,6,7,8,9,10,11,19,48] hc ?_ ?_|refine rC ?_ ?_<;>intro AA<;>try(cases AA;done))
  ·exact eV
  ·exact eV
  ·have hk0:0<k:=Int.ofNat_lt.1 AA
   have hkm:((k:Int)-1).toNat=k-1:=by omega
   have hV:=Ac V (0,0) (k:=k-1) (by omega)
   rw[show k-1+1=k by omega]at hV
   rw[hkm]
   generalize hst:V.getD (k-1) (0,0)=st at *
   obtain⟨s,t⟩:=st
   rw[hV]at hJ
   obtain⟨⟨s0,s1⟩,t0,t1⟩:=hJ.wr (s,t) (by simp)
   simp only at s0 s1 t0 t1
   obtain⟨rk,fo⟩:=hJ.fo
   have ql:=hJ.lp
   refine IQ drawsAny hc 8 [([0,1,2],3),([4,5,6],7)] [] (by kernel_rfl) (YV ?_ ?_)
   ·trivial
   ·refine mxC hc (X2 h tq aq rk fo s0 (by rw[ql];exact s1)) [(1,.nm 101),(2,.nm 102),(3,.nm 103),(4,.nm 104)] [102,103,104] ?_ ?_ ?_
    ·first|exact eN|refine eM ?_
    ·simp only[Q2]
     first|exact eN|refine eM ?_
    ·rintro _ _ ⟨q1,r1,rfl,rfl,fo1,sm1,rt1⟩
     refine⟨[(101,.nm 1),(102,.nm 2),(103,.nm 3),(104,.nm 4)],.p T3 r1,[(101,.box 94 true [.p GD h,.sr 102 T3 0 q1.length,.sr 103 T3 0 tq.length,.sr 104 CE 0 aq.length]),(102,.arr 3 T3 q1),(103,.arr 3 T3 tq),(104,.arr 86 CE aq)],rfl,rfl,?_,?_,rfl,rfl,rfl,?_⟩
     ·simp only[Q2]
      first|exact eN|refine eM ?_
     ·first|exact eN|refine eM ?_
     ·refine YV ?_ ?_
      ·trivial
      ·refine mxC hc (X2 h tq aq rk fo1 t0 (by rw[←sm1.1,ql];exact t1)) [(1,.nm 101),(2,.nm 102),(3,.nm 103),(4,.nm 104)] [102,103,104] ?_ ?_ ?_
       ·first|exact eN|refine eM ?_
       ·simp only[Q2]
        first|exact eN|refine eM ?_
       ·rintro _ _ ⟨q2,r2,rfl,rfl,fo2,sm2,rt2⟩
        refine⟨[(101,.nm 1),(102,.nm 2),(103,.nm 3),(104,.nm 4)],.p T3 r2,[(101,.box 94 true [.p GD h,.sr 102 T3 0 q2.length,.sr 103 T3 0 tq.length,.sr 104 CE 0 aq.length]),(102,.arr 3 T3 q2),(103,.arr 3 T3 tq),(104,.arr 86 CE aq)],rfl,rfl,?_,?_,rfl,rfl,rfl,?_⟩
        ·simp only[Q2]
         first|exact eN|refine eM ?_
        ·first|exact eN|refine eM ?_
        ·refine zO [0,1,2,3,6,7,8,9,10,11,19,48] hc ?_ ?_ ?_
         ·trivial
         ·trivial
         ·repeat'(first|exact trivial|refine eS rfl ?_|refine AB ?_|refine rX [0,1,2,3,6,7,8,9,10,11,19,48] hc ?_ ?_|refine rC ?_ ?_<;>intro AA<;>try(cases AA;done))
          have hJ2:=A2e (sm1.trans sm2) ⟨rk,fo2⟩ hJ
          have sm:=sm1.trans sm2
          have hs2:=(sm.2 s r1 s0 (by rw[ql];exact s1)).1 rt1
          have ht2:=(sm2.2 t r2 t0 (by rw[←sm1.1,ql];exact t1)).1 rt2
          have q2l:=hJ2.lp
          have g1:=Fi fo2 s0 (by rw[q2l];exact s1) hs2
          have g2:=Fi fo2 t0 (by rw[q2l];exact t1) ht2
          refine evP hc 4 ?_ ?_
          ·trivial
          ·by_cases he:r1=r2
           ·subst he
            rw[show (r1 != r1)=false from bne_self_eq_false r1]
            refine rL [0,1,2,3,6,7,8,9,10,11,19,48] hc ?_ ?_
            ·trivial
            ·repeat'(first|exact trivial|refine eS rfl ?_|refine AB ?_|refine rX [0,1,2,3,6,7,8,9,10,11,19,48] hc ?_ ?_|refine rC ?_ ?_<;>intro AA<;>try(cases AA;done))
             have hJ3:=oO hJ2 hs2 ht2
             have hn:=oP sm
             refine⟨⟨((q2,tq,aq),V,k-1),hJ3,by simp only;omega,by simp only;rw[hn];omega⟩,by simp only;rw[hn];omega,AC [(101,.nm 101),(102,.nm 102),(103,.nm 103),(104,.nm 104),(3,.nm 3),(7,.nm 7),(15,.nm 15)] rfl rfl ?_ ?_⟩
             ·first|exact eN|refine eM ?_
             ·first|exact eN|refine eM ?_
           ·rw[show (r1 != r2)=true by simpa using he]
            refine rN 3 hc ?_ ?_
            ·trivial
            ·have hla:=fun r:Int=>oQ (hJ2.srt r.toNat) (fun a ha=>(hJ2.arr r.toNat a ha).2)
             refine clG hc (xV h hh hhc q2 tq aq V (k-1) (by omega) (by omega) g1.1 g1.2 g2.1 g2.2 (by rw[hJ2.lt,q2l]) (by rw[hJ2.la,q2l]) (hJ2.tyr r1 g1.1 (by rw[←q2l];exact g1.2)) (hJ2.tyr r2 g2.1 (by rw[←q2l];exact g2.2)) (Nat.le_trans (hla r1) (by omega)) (Nat.le_trans (hla r2) (by omega))) [(1,.nm 101),(2,.nm 102),(3,.nm 103),(4,.nm 104),(5,.nm 3),(6,.nm 7),(7,.nm 15)] [102,103,104,15] ?_ ?_ ?_
             ·first|exact eN|refine eM ?_
             ·simp only[xU]
              first|exact eN|refine eM ?_
             ·rintro res objs' (⟨e1,rfl,rfl⟩|⟨e1,rfl,W',hi',hw1,hw2,rfl⟩)
              ·refine⟨[(101,.nm 1),(102,.nm 2),(103,.nm 3),(104,.nm 4),(3,.nm 5),(7,.nm 6),(15,.nm 7)],.p .bool false,[(101,.box 94 true [.p GD h,.sr 102 T3 0 q2.length,.sr 103 T3 0 tq.length,.sr 104 CE 0 aq.length]),(102,.arr 3 T3 q2),(103,.arr 3 T3 tq),(104,.arr 86 CE aq),(3,.box 91 false [.bp 101 [] 0]),(7,.box 159 false [.sr 15 IT 0 (k-1)]),(15,.arr 158 IT V)],rfl,rfl,?_,?_,rfl,rfl,?_⟩
               ·simp only[xU]
                first|exact eN|refine eM ?_
               ·first|exact eN|refine eM ?_
               ·refine rL [0,1,2,3,6,7,8,9,10,11,19,48] hc ?_ ?_
                ·trivial
                ·repeat'(first|exact trivial|refine eS rfl ?_|refine AB ?_|refine rX [0,1,2,3,6,7,8,9,10,11,19,48] hc ?_ ?_|refine rC ?_ ?_<;>intro AA<;>try(cases AA;done))
                 refine Ev.ent (σ':=⟨[(6,.p .bool false)],Rw h q2 tq aq⟩) ?_ (AC [(101,.nm 101),(102,.nm 102),(103,.nm 103),(104,.nm 104)] rfl rfl ?_ ?_)
                 ·exact BE hc [.tmp 6] rfl (.inl rfl) (.p .bool false) eT (.inr ⟨rfl,⟨q2,tq,aq,rfl⟩,fun X v hX hv=>by
                   have:=(X4 hk hJ2 hs2 ht2 hX hv).2.1
                   rw[e1]at this
                   cases this⟩)
                 ·unfold Rw
                  first|exact eN|refine eM ?_
                 ·first|exact eN|refine eM ?_
              ·refine⟨[(101,.nm 1),(102,.nm 2),(103,.nm 3),(104,.nm 4),(3,.nm 5),(7,.nm 6),(15,.nm 7)],.p .bool true,[(101,.box 94 true [.p GD h,.sr 102 T3 0 (q2.set r2.toNat r1).length,.sr 103 T3 0 (tq.set r1.toNat (CB h (tq.getD r1.toNat 0) (tq.getD r2.toNat 0)).1).length,.sr 104 CE 0 (aq.set r1.toNat (Bf (aq.getD r1.toNat []) (aq.getD r2.toNat [])).1).length]),(102,.arr 3 T3 (q2.set r2.toNat r1)),(103,.arr 3 T3 (tq.set r1.toNat (CB h (tq.getD r1.toNat 0) (tq.getD r2.toNat 0)).1)),(104,.arr 86 CE (aq.set r1.toNat (Bf (aq.getD r1.toNat []) (aq.getD r2.toNat [])).1)),(3,.box 91 false [.bp 101 [] 0]),(7,.box 159 false [.sr 15 IT 0 hi']),(15,.arr 158 IT W')],rfl,rfl,?_,?_,rfl,rfl,?_⟩
               ·simp only[xU]
                first|exact eN|refine eM ?_
               ·first|exact eN|refine eM ?_
               ·refine rL [0,1,2,3,6,7,8,9,10,11,19,48] hc ?_ ?_
                ·trivial
                ·repeat'(first|exact trivial|refine eS rfl ?_|refine AB ?_|refine rX [0,1,2,3,6,7,8,9,10,11,19,48] hc ?_ ?_|refine rC ?_ ?_<;>intro AA<;>try(cases AA;done))
                 have hJ3:=aJ hk hJ2 hs2 ht2 he e1
                 rw[←hw2]at hJ3
                 have hn:=oP sm
                 have hn2:=A2f (a:=r1) g2.1 g2.2 ht2.root he
                 have hpr:(Bf (aq.getD r1.toNat []) (aq.getD r2.toNat [])).2.length≤(DN N).length:=Nat.le_trans Ru (hla r1)
                 have hwl:=congrArg List.length hw2
                 rw[List.length_append,List.length_take,List.length_take]at hwl
                 have hm:nR q2*((DN N).length+1)=nR (q2.set r2.toNat r1)*((DN N).length+1)+((DN N).length+1):=by rw[←hn2,Nat.add_mul,Nat.one_mul]
                 rw[hn]at hm
                 refine⟨⟨((q2.set r2.toNat r1,tq.set r1.toNat (CB h (tq.getD r1.toNat 0) (tq.getD r2.toNat 0)).1,aq.set r1.toNat (Bf (aq.getD r1.toNat []) (aq.getD r2.toNat [])).1),W',hi'),hJ3,hw1,by simp only;omega⟩,by simp only;omega,AC [(101,.nm 101),(102,.nm 102),(103,.nm 103),(104,.nm 104),(3,.nm 3),(7,.nm 7),(15,.nm 15)] rfl rfl ?_ ?_⟩
                 ·first|exact eN|refine eM ?_
                 ·first|exact eN|refine eM ?_
  ·have hk0:k=0:=by
    have:=Int.ofNat_le.1 AA
    omega
   subst hk0
   rw[List.take_zero]at hJ
   refine Ev.ent (σ':=⟨[(6,.p .bool true)],Rw h q tq aq⟩) ?_ (AC [(101,.nm 101),(102,.nm 102),(103,.nm 103),(104,.nm 104)] rfl rfl ?_ ?_)
   ·exact BE hc [.tmp 6] rfl (.inl rfl) (.p .bool true) eT (.inl ⟨rfl,q,tq,aq,rfl,hJ⟩)
   ·unfold Rw
    first|exact eN|refine eM ?_
   ·first|exact eN|refine eM ?_
end
/- Plain: the graph of the classes. -/
section
open Classical in
/-- The node that stands for a node. -/
noncomputable def DV (p:List Int) (x:Int):Int:=if h:∃r,Rt p x r then h.choose else x
theorem Tv {p:List Int} {x r:Int} (h:Rt p x r):DV p x=r:=by
 unfold DV
 rw[dif_pos ⟨r,h⟩]
 exact(Exists.choose_spec (p:=fun r=>Rt p x r) ⟨r,h⟩).det h
theorem NL {p:List Int} {rk:Int→Nat} (hp:Fo p rk) {x:Int} (x0:0≤x) (x1:x<(p.length:Int)):Rt p x (DV p x):=by
 obtain⟨r,h,-,-⟩:=hp.root x0 x1
 rw[Tv h]
 exact h
noncomputable def quo (p ty:List Int) (ar:List (List (Int×Int))):List AE:=(List.range p.length).map fun k=>(ty.getD k 0,(ar.getD k []).map fun a=>(a.1,DV p a.2))
theorem Dn (p ty:List Int) (ar:List (List (Int×Int))):(quo p ty ar).length=p.length:=by simp[quo]
theorem Jw {p ty:List Int} {ar:List (List (Int×Int))} {n:Int} (n0:0≤n) (n1:n<(p.length:Int)):(quo p ty ar).getD n.toNat (0,[])=(ty.getD n.toNat 0,(ar.getD n.toNat []).map fun a=>(a.1,DV p a.2)):=by
 unfold quo
 rw[List.getD_eq_getElem?_getD,List.getElem?_map,List.getElem?_range (by omega)]
 rfl
def Jx (len:Nat) (o:List Int):List Int:=(List.range len).map fun(k:Nat)=>if (k:Int)∈o then ((o.idxOf (k:Int):Nat):Int) else -1
theorem Tw (len:Nat) (o:List Int):(Jx len o).length=len:=by simp[Jx]
theorem Tx {len:Nat} {o:List Int} {n:Int} (n0:0≤n) (n1:n<(len:Int)):(Jx len o).getD n.toNat 0=if n∈o then (o.idxOf n:Int) else -1:=by
 unfold Jx
 rw[List.getD_eq_getElem?_getD,List.getElem?_map,List.getElem?_range (by omega)]
 simp only[Option.map_some,Option.getD_some]
 rw[show ((n.toNat:Nat):Int)=n by omega]
theorem Tz {o:List Int} {n:Int} (h:n∉o):(o++[n]).idxOf n=o.length:=by
 rw[List.idxOf_append,if_neg h]
 simp
theorem WR {o t:List Int} {n:Int} (h:n∈o):(o++t).idxOf n=o.idxOf n:=by
 rw[List.idxOf_append,if_pos h]
theorem xW {len:Nat} {o:List Int} {n:Int} (n0:0≤n) (n1:n<(len:Int)) (h:n∉o):(Jx len o).set n.toNat (o.length:Int)=Jx len (o++[n]):=by
 apply List.ext_getElem
 ·simp[Jx]
 ·intro i h1 h2
  rw[List.getElem_set]
  simp only[Jx,List.getElem_map,List.getElem_range]
  by_cases e:n.toNat=i
  ·rw[if_pos e]
   have e2:(i:Int)=n:=by omega
   rw[e2,if_pos (by simp),Tz h]
  ·rw[if_neg e]
   have e2:(i:Int)≠n:=by omega
   by_cases h3:(i:Int)∈o
   ·rw[if_pos h3,if_pos (by simp[h3]),WR h3]
   ·rw[if_neg h3,if_neg (by simp[h3,e2])]
theorem T6 {o t:List Int} {x:Int} (h:x∈o):Be (o++t) x=Be o x:=by
 unfold Be
 rw[if_pos (List.mem_append_left _ h),if_pos h,WR h]
theorem Ow {f:List AE} (hf:AY f) (k:Nat):∀(l:List (Int×Int)) (t:List Int),(∀a∈l,0≤a.2∧a.2<(f.length:Int))→LF f t→f.length-t.length≤k →
  (∀a∈l,a.2∈l.foldl (Ab f k) t)∧∀x∈l.foldl (Ab f k) t,x∈t∨∀a∈(f.getD x.toNat (0,[])).2,a.2∈l.foldl (Ab f k) t:=by
 intro l
 induction l with
 | nil=>exact fun t _ _ _=>⟨fun a ha=>(by cases ha),fun x hx=>.inl hx⟩
 | cons a l ih =>
  intro t hl ht hlen
  simp only[List.foldl_cons]
  have hstep:LF f (Ab f k t a)∧t <+: Ab f k t a∧a.2∈Ab f k t a∧∀x∈Ab f k t a,x∈t∨∀b∈(f.getD x.toNat (0,[])).2,b.2∈Ab f k t a:=by
   unfold Ab
   split
   ·rename_i hn
    exact⟨ht,List.prefix_refl _,hn,fun x hx=>.inl hx⟩
   ·rename_i hn
    have q:=hl a (by simp)
    obtain⟨g1,g2⟩:=Dm hf k t a.2 ht q.1 q.2 hn
    obtain⟨g3,g4⟩:=Hd hf k t a.2 ht q.1 q.2 hn hlen
    exact⟨g1,g2,g3,g4⟩
  obtain⟨g1,g2,g3,g4⟩:=hstep
  have hle:=g2.length_le
  obtain⟨i1,i2⟩:=ih (Ab f k t a) (fun b hb=>hl b (by simp[hb])) g1 (by omega)
  obtain⟨_,j2⟩:=EP (Dm hf k) l (Ab f k t a) (fun b hb=>hl b (by simp[hb])) g1
  refine⟨fun b hb=>?_,fun x hx=>?_⟩
  ·rcases List.mem_cons.1 hb with rfl|hb
   ·exact j2.subset g3
   ·exact i1 b hb
  ·rcases i2 x hx with hx|hx
   ·rcases g4 x hx with hx|hx
    ·exact .inl hx
    ·exact .inr fun b hb=>j2.subset (hx b hb)
   ·exact .inr hx
def Gg (f:List AE) (o o':List Int):List AE:=(o'.drop o.length).map (DU f o')
theorem sK {f:List AE} {o t:List Int} {x:Int} (h:∀a∈(f.getD x.toNat (0,[])).2,a.2∈o):DU f (o++t) x=DU f o x:=by
 unfold DU
 refine congrArg _ (List.map_congr_left fun a ha=>?_)
 unfold I8
 rw[T6 (h a ha)]
theorem xX {f:List AE} {o1 o2 o3:List Int} (h12:o1 <+: o2) (h23:o2 <+: o3) (hc:∀x∈o2,x∈o1∨∀a∈(f.getD x.toNat (0,[])).2,a.2∈o2) (hn:o2.Nodup):Gg f o1 o2++Gg f o2 o3=Gg f o1 o3:=by
 obtain⟨t,rfl⟩:=h12
 obtain⟨s,rfl⟩:=h23
 unfold Gg
 rw[List.drop_left,List.drop_left,List.append_assoc,List.drop_left,←List.append_assoc,List.map_append]
 congr 1
 refine List.map_congr_left fun x hx=>?_
 refine(sK fun a ha=>?_).symm
 rcases hc x (List.mem_append_right _ hx) with h|h
 ·exact absurd rfl ((List.nodup_append.1 hn).2.2 x h x hx)
 ·exact h a ha
theorem WS (f:List AE) (o:List Int):Gg f o o=[]:=by
 unfold Gg
 rw[List.drop_length]
 rfl
theorem Pw {α β:Type} (f:α→β) {l:List α} (d:α) (e:β) {i:Nat} (h:i<l.length):(l.map f).getD i e=f (l.getD i d):=by
 simp[List.getD_eq_getElem?_getD,List.getElem?_eq_getElem h]
structure A71 (Q:List AE) (o1:List Int) (L:List (Int×Int)) (j:Nat) (oo:Nat→List Int):Prop where
 zero:oo 0=o1
 succ:∀i,i<L.length→oo (i+1)=Ab Q j (oo i) (0,(L.getD i (0,0)).2)
 dok:∀i,LF Q (oo i)
 pre:∀i,o1 <+: oo i
 nxt:∀i,oo i <+: oo (i+1)
 tgt:∀i,∀a∈L.take i,a.2∈oo i
 cls:∀i,∀x∈oo i,x∈o1∨∀a∈(Q.getD x.toNat (0,[])).2,a.2∈oo i
 last:oo L.length=L.foldl (Ab Q j) o1
theorem A2g {Q:List AE} (hQ:AY Q) {o1:List Int} {L:List (Int×Int)} {j:Nat} (hL:∀a∈L,0≤a.2∧a.2<(Q.length:Int)) (h1:LF Q o1) (hj:Q.length-o1.length≤j):A71 Q o1 L j (fun i=>(L.take i).foldl (Ab Q j) o1):=by
 have hl:=fun i=>fun a (ha:a∈L.take i)=>hL a (List.mem_of_mem_take ha)
 have hs:∀i,i<L.length→(L.take (i+1)).foldl (Ab Q j) o1=Ab Q j ((L.take i).foldl (Ab Q j) o1) (0,(L.getD i (0,0)).2):=fun i hi=>Pn (Ab Q j) L (0,0) o1 hi
 have hd:=fun i=>EP (Dm hQ j) (L.take i) o1 (hl i) h1
 refine⟨rfl,hs,fun i=>(hd i).1,fun i=>(hd i).2,fun i=>?_,fun i=>(Ow hQ j _ o1 (hl i) h1 hj).1,fun i=>(Ow hQ j _ o1 (hl i) h1 hj).2,by simp only[List.take_length]⟩
 by_cases h:i<L.length
 ·show _ <+: (L.take (i+1)).foldl (Ab Q j) o1
  rw[hs i h]
  have hr:=hL _ (AD L (0,0) h)
  exact(EP (Dm hQ j) [(0,(L.getD i (0,0)).2)] _ (fun a ha=>by
   have e:a=(0,(L.getD i (0,0)).2):=by simpa using ha
   subst e
   exact hr) (hd i).1).2
 ·show (L.take i).foldl (Ab Q j) o1 <+: (L.take (i+1)).foldl (Ab Q j) o1
  rw[List.take_of_length_le (by omega),List.take_of_length_le (by omega)]
  exact List.prefix_refl _
theorem A2h {α:Type} (l:List α) (x y:α) (t:List α) {k:Nat} (hk:k=l.length):(l++[x]++t).set k y=l++y :: t:=by
 subst hk
 rw[List.append_assoc,List.set_append_right _ _ (by omega),Nat.sub_self]
 rfl
theorem sL {Q:List AE} {o o':List Int} {n:Int} (h:o++[n] <+: o'):Gg Q o o'=DU Q o' n :: Gg Q (o++[n]) o':=by
 obtain⟨t,rfl⟩:=h
 unfold Gg
 rw[List.drop_left,List.append_assoc,List.drop_left]
 rfl
end
/- Functions of unify.classes: graph's visit. -/
section
def uO (h:AM) (p ty:List Int) (ar:List (List (Int×Int))) (M:List Int) (out:List AE):List (Nat×Obj):=[(101,.box 94 true [.p GD h,.sr 102 T3 0 p.length,.sr 103 T3 0 ty.length,.sr 104 CE 0 ar.length]),(102,.arr 3 T3 p),(103,.arr 3 T3 ty),(104,.arr 86 CE ar),(105,.box 91 false [.bp 101 [] 0]),(106,.box 40 false [.sr 107 T3 0 M.length]),(107,.arr 3 T3 M),(108,.box 25 true [.sr 109 J9 0 out.length]),(109,.arr 88 J9 out),(110,.box 160 false [.clo 103 [105,106,108,110]])]
def A3K (h:AM) (p0 ty:List Int) (ar:List (List (Int×Int))) (k:Nat):Prop:=∀(p o:List Int) (out:List AE) (n:Int),(∃rk,Fo p rk)→ER p0 p→LF (quo p0 ty ar) o→out.length=o.length→0≤n→n<(p0.length:Int)→p0.length-o.length≤k →
 B8 Tryz.prog 103 [.p T3 n,.bp 105 [] 0,.bp 106 [] 0,.bp 108 [] 0,.bp 110 [] 0] (uO h p ty ar (Jx p0.length o) out) [101,105,106,108,110]
  (fun res objs'=>∃p',(∃rk,Fo p' rk)∧ER p0 p'∧res=.p T3 (Be (Ab (quo p0 ty ar) k o (0,DV p0 n)) (DV p0 n))∧objs'=uO h p' ty ar (Jx p0.length (Ab (quo p0 ty ar) k o (0,DV p0 n))) (out++Gg (quo p0 ty ar) o (Ab (quo p0 ty ar) k o (0,DV p0 n))))
theorem aM (h:AM) {p0 ty:List Int} {ar:List (List (Int×Int))} (hf0:∃rk,Fo p0 rk) (hQ:AY (quo p0 ty ar)) (htl:ty.length=p0.length) (hal:ar.length=p0.length) (har:∀k,∀a∈ar.getD k [],0≤a.2∧a.2<(p0.length:Int)) (k:Nat) (ih:∀j,k=j+1→A3K h p0 ty ar j):A3K h p0 ty ar k:=by
 intro p o out n hfo hsm hdo hol n0 n1 hk
 obtain⟨rk,fo⟩:=hfo
 obtain⟨rk0,fo0⟩:=hf0
 have hr0:=NL fo0 n0 n1
 have hr1:=Fi fo0 n0 n1 hr0
 have hp:=hQ.1
 rw[Dn]at hp
 have hml:=Tw p0.length o
 generalize hn2:DV p0 n=n2 at *
 refine CQ Tryz.func103 (by kernel_rfl) rfl Tryz.ntmps103 (by simp only[List.length_cons,List.length_nil];omega) (by kernel_rfl) rfl rfl (AG []) AJ ?_
 intro w0 K O0 ρ0 hc hok1 hok2
 simp only[uO,BG]
 repeat'(first|exact trivial|refine eS rfl ?_|refine AB ?_|refine rX [0,1,2,3,4,6,7,8,10,18,49,50,51,52] hc ?_ ?_|refine rC ?_ ?_<;>intro AA<;>try(cases AA;done))
 refine cP 2 hc ?_ ?_
 ·trivial
 ·refine rM hc (X2 h ty ar rk fo n0 (by rw[←hsm.1];exact n1)) [(1,.nm 101),(2,.nm 102),(3,.nm 103),(4,.nm 104)] [102,103,104] ?_ ?_ ?_
  ·first|exact eN|refine eM ?_
  ·simp only[Q2]
   first|exact eN|refine eM ?_
  ·rintro _ _ ⟨p1,r1,rfl,rfl,fo1,sm1,rt1⟩
   have sm2:=hsm.trans sm1
   have e:=((hsm.2 n n2 n0 n1).1 hr0).det rt1
   subst e
   refine⟨[(101,.nm 1),(102,.nm 2),(103,.nm 3),(104,.nm 4)],.p T3 n2,[(101,.box 94 true [.p GD h,.sr 102 T3 0 p1.length,.sr 103 T3 0 ty.length,.sr 104 CE 0 ar.length]),(102,.arr 3 T3 p1),(103,.arr 3 T3 ty),(104,.arr 86 CE ar)],rfl,rfl,?_,?_,rfl,rfl,?_⟩
   ·simp only[Q2]
    first|exact eN|refine eM ?_
   ·first|exact eN|refine eM ?_
   ·refine rL [0,1,2,3,4,6,7,8,10,18,49,50,51,52] hc ?_ ?_
    ·trivial
    ·repeat'(first|exact trivial|refine eS rfl ?_|refine AB ?_|refine rX [0,1,2,3,4,6,7,8,10,18,49,50,51,52] hc ?_ ?_|refine rC ?_ ?_<;>intro AA<;>try(cases AA;done))
     ·exact⟨hr1.1,by rw[hml];exact hr1.2⟩
     ·exact⟨hr1.1,by rw[hml];exact hr1.2⟩
     ·rw[Tx hr1.1 hr1.2]at AA
      have hin:n2∈o:=Classical.byContradiction fun e=>by rw[if_neg e]at AA;omega
      have hst:Ab (quo p0 ty ar) k o (0,n2)=o:=if_pos hin
      have hid:Be o n2=(Jx p0.length o).getD n2.toNat 0:=by
       rw[Tx hr1.1 hr1.2,if_pos hin]
       unfold Be
       rw[if_pos hin]
      refine Ev.ent (σ':=⟨[(6,.p T3 (Be o n2))],uO h p1 ty ar (Jx p0.length o) out⟩) ?_ (AC [(101,.nm 101),(102,.nm 102),(103,.nm 103),(104,.nm 104),(105,.nm 105),(106,.nm 106),(107,.nm 107),(108,.nm 108),(109,.nm 109),(110,.nm 110)] rfl rfl ?_ ?_)
      ·refine BE hc [.tmp 6] rfl (.inl rfl) (.p T3 (Be o n2)) eT ⟨p1,⟨rk,fo1⟩,sm2,by rw[hst],?_⟩
       rw[hst,WS,List.append_nil]
       rfl
      ·unfold uO
       first|exact eN|refine eM ?_
      ·first|exact eN|refine eM ?_
       exact hid.symm
     ·exact⟨hr1.1,by rw[hml];exact hr1.2⟩
     ·refine⟨⟨hr1.1,by rw[htl];exact hr1.2⟩,?_⟩
      have:=hdo.len
      rw[Dn]at this
      simp only[AP]
      omega
     ·exact⟨hr1.1,by rw[hal];exact hr1.2⟩
     ·rw[Tx hr1.1 hr1.2]at AA
      have hno:n2∉o:=fun e=>by rw[if_pos e]at AA;omega
      have hd1:=hdo.snoc hr1.1 (by rw[Dn];exact hr1.2) hno
      have hl1:=hd1.len
      rw[Dn,List.length_append,List.length_singleton]at hl1
      obtain⟨j,rfl⟩:∃j,k=j+1:=⟨k-1,by omega⟩
      have hih:=ih j rfl
      have hnode:=Jw (p:=p0) (ty:=ty) (ar:=ar) hr1.1 hr1.2
      have hxr:=fun a (ha:a∈ar.getD n2.toNat [])=>har n2.toNat a ha
      have hxl:(ar.getD n2.toNat []).length≤100000:=by
       have:=(hQ.2 _ (AD (quo p0 ty ar) (0,[]) (k:=n2.toNat) (by rw[Dn];omega))).1
       rw[hnode,List.length_map]at this
       exact this
      have hLr:∀a∈((ar.getD n2.toNat []).map fun a=>(a.1,DV p0 a.2)),0≤a.2∧a.2<((quo p0 ty ar).length:Int):=fun a ha=>by
       refine BC hQ (n:=n2) ?_
       rw[hnode]
       exact ha
      obtain⟨oo,hplan⟩:∃oo,A71 (quo p0 ty ar) (o++[n2]) ((ar.getD n2.toNat []).map fun a=>(a.1,DV p0 a.2)) j oo:=⟨_,A2g hQ (j:=j) hLr hd1 (by rw[Dn,List.length_append,List.length_singleton];omega)⟩
      have hstep:Ab (quo p0 ty ar) (j+1) o (0,n2)=((ar.getD n2.toNat []).map fun a=>(a.1,DV p0 a.2)).foldl (Ab (quo p0 ty ar) j) (o++[n2]):=by
       unfold Ab
       rw[if_neg hno]
       show DT (quo p0 ty ar) (j+1) o n2=_
       rw[CN,hnode]
       rfl
      rw[←hplan.last,List.length_map]at hstep
      have hlg:=fun(i:Nat) (hi:i<(ar.getD n2.toNat []).length)=>show (((ar.getD n2.toNat []).map fun a=>(a.1,DV p0 a.2)).getD i (0,0))=(((ar.getD n2.toNat []).getD i (0,0)).1,DV p0 ((ar.getD n2.toNat []).getD i (0,0)).2) by
       exact Pw (fun a:Int×Int=>(a.1,DV p0 a.2)) (0,0) (0,0) hi
      rw[hol,xW hr1.1 hr1.2 hno]
      generalize hxs:ar.getD n2.toNat []=xs at *
      refine AL (ι:={s:Nat×List Int//s.1≤xs.length∧(∃rk,Fo s.2 rk)∧ER p0 s.2}) (fun s=>⟨[(0,.p T3 n2),(1,.bp 105 [] 0),(2,.bp 106 [] 0),(3,.bp 108 [] 0),(4,.bp 110 [] 0),(7,.p (.int .i64) (o.length:Int)),(8,.sr 64 Aq 0 ((xs.take s.1.1).map fun a=>(a.1,Be (oo s.1.1) (DV p0 a.2))).length),(49,.p CE xs),(50,.p (.int .i64) (xs.length:Int)),(51,.p (.int .i64) (s.1.1:Int))],uO h s.1.2 ty ar (Jx p0.length (oo s.1.1)) (out++[(ty.getD n2.toNat 0,[])]++Gg (quo p0 ty ar) (o++[n2]) (oo s.1.1))++[(64,.arr 108 Aq ((xs.take s.1.1).map fun a=>(a.1,Be (oo s.1.1) (DV p0 a.2))))]⟩) (fun s=>xs.length-s.1.1) ⟨(0,p1),Nat.zero_le _,⟨rk,fo1⟩,sm2⟩ (AC [(101,.nm 101),(102,.nm 102),(103,.nm 103),(104,.nm 104),(105,.nm 105),(106,.nm 106),(107,.nm 107),(108,.nm 108),(109,.nm 109),(110,.nm 110),(64,.nil)] rfl rfl ?_ ?_) (fun s=>?_)
      ·unfold uO
       simp only[hplan.zero,WS,List.append_nil]
       first|exact eN|refine eM ?_
       exact⟨by rw[Tw,Tw],hol.symm⟩
      ·first|exact eN|refine eM ?_
      ·obtain⟨⟨i,q⟩,hi,⟨rkq,hfq⟩,hsq⟩:=s
       have hpre:=hplan.pre i
       have hdi:=hplan.dok i
       have hple:=hpre.length_le
       have hdl:=hdi.len
       rw[List.length_append,List.length_singleton]at hple
       rw[Dn]at hdl
       have hlen:(out++[(ty.getD n2.toNat 0,[])]++Gg (quo p0 ty ar) (o++[n2]) (oo i)).length=(oo i).length:=by
        unfold Gg
        simp only[List.length_append,List.length_singleton,List.length_map,List.length_drop]
        omega
       have hlen2:out.length+1+(Gg (quo p0 ty ar) (o++[n2]) (oo i)).length=(oo i).length:=by
        rw[←hlen,List.length_append,List.length_append,List.length_singleton]
       simp only[uO]
       repeat'(first|exact trivial|refine eS rfl ?_|refine AB ?_|refine rX [0,1,2,3,4,6,7,8,10,18,49,50,51,52] hc ?_ ?_|refine rC ?_ ?_<;>intro AA<;>try(cases AA;done))
       ·exact AA
       ·have hiL:i<xs.length:=Int.ofNat_lt.1 AA
        have hxi:=hxr _ (AD xs (0,0) hiL)
        have hsuc:=hplan.succ i (by rw[List.length_map];exact hiL)
        rw[hlg i hiL]at hsuc
        have happ:=xX hpre (hplan.nxt i) (hplan.cls i) hdi.nd
        have hpre2:=hplan.pre (i+1)
        have hlen3:out.length+1+(Gg (quo p0 ty ar) (o++[n2]) (oo (i+1))).length=(oo (i+1)).length:=by
         have h1:=hpre2.length_le
         rw[List.length_append,List.length_singleton]at h1
         unfold Gg
         simp only[List.length_append,List.length_singleton,List.length_map,List.length_drop]
         omega
        have eA:((xs.take i).map fun a=>(a.1,Be (oo i) (DV p0 a.2)))++[((xs.getD i (0,0)).1,Be (oo (i+1)) (DV p0 (xs.getD i (0,0)).2))]=(xs.take (i+1)).map fun a=>(a.1,Be (oo (i+1)) (DV p0 a.2)):=by
         rw[DE _ xs (0,0) hiL]
         congr 1
         refine List.map_congr_left fun a ha=>?_
         obtain⟨t,ht⟩:=hplan.nxt i
         rw[←ht,T6 (hplan.tgt i (a.1,DV p0 a.2) (by rw[←List.map_take];exact List.mem_map.2 ⟨a,ha,rfl⟩))]
        rw[hlen2]
        refine IQ drawsAny hc 10 [([3,4,5],6),([1,2],7),([],8),([0],9)] [] (by kernel_rfl) (YV ?_ ?_)
        ·trivial
        ·refine mxC hc (hih q (oo i) (out++[(ty.getD n2.toNat 0,[])]++Gg (quo p0 ty ar) (o++[n2]) (oo i)) (xs.getD i (0,0)).2 ⟨rkq,hfq⟩ hsq hdi hlen hxi.1 hxi.2 (by omega)) [(101,.nm 101),(102,.nm 102),(103,.nm 103),(104,.nm 104),(105,.nm 105),(106,.nm 106),(107,.nm 107),(108,.nm 108),(109,.nm 109),(110,.nm 110)] [102,103,104,107,109] ?_ ?_ ?_
         ·first|exact eN|refine eM ?_
         ·simp only[uO]
          first|exact eN|refine eM ?_
          exact hlen2.symm
         ·rintro _ _ ⟨p',⟨rk',fo'⟩,sm',rfl,rfl⟩
          rw[←hsuc,List.append_assoc _ _ (Gg _ (oo i) _),happ]
          refine⟨[(101,.nm 101),(102,.nm 102),(103,.nm 103),(104,.nm 104),(105,.nm 105),(106,.nm 106),(107,.nm 107),(108,.nm 108),(109,.nm 109),(110,.nm 110)],.p T3 (Be (oo (i+1)) (DV p0 (xs.getD i (0,0)).2)),[(101,.box 94 true [.p GD h,.sr 102 T3 0 p'.length,.sr 103 T3 0 ty.length,.sr 104 CE 0 ar.length]),(102,.arr 3 T3 p'),(103,.arr 3 T3 ty),(104,.arr 86 CE ar),(105,.box 91 false [.bp 101 [] 0]),(106,.box 40 false [.sr 107 T3 0 (Jx p0.length (oo (i+1))).length]),(107,.arr 3 T3 (Jx p0.length (oo (i+1)))),(108,.box 25 true [.sr 109 J9 0 (oo (i+1)).length]),(109,.arr 88 J9 (out++[(ty.getD n2.toNat 0,[])]++Gg (quo p0 ty ar) (o++[n2]) (oo (i+1)))),(110,.box 160 false [.clo 103 [105,106,108,110]])],rfl,rfl,?_,?_,rfl,rfl,rfl,?_⟩
          ·simp only[uO]
           first|exact eN|refine eM ?_
           exact hlen3
          ·first|exact eN|refine eM ?_
          ·refine YV ?_ ?_
           ·trivial
           ·refine hC hc [] ?_ ?_
            ·trivial
            ·refine YV ?_ ?_
             ·trivial
             ·refine hC hc [] ?_ ?_
              ·trivial
              ·refine YV ?_ ?_
               ·trivial
               ·refine hC hc [64] ?_ ?_
                ·rw[List.length_map,List.length_take]
                 simp only[AP]
                 omega
                ·refine zO [0,1,2,3,4,6,7,8,10,18,49,50,51,52] hc ?_ ?_ ?_
                 ·trivial
                 ·trivial
                 ·repeat'(first|exact trivial|refine eS rfl ?_|refine AB ?_|refine rX [0,1,2,3,4,6,7,8,10,18,49,50,51,52] hc ?_ ?_|refine rC ?_ ?_<;>intro AA<;>try(cases AA;done))
                  ·exact eV
                  ·refine⟨⟨(i+1,p'),hiL,⟨rk',fo'⟩,sm'⟩,by simp only;omega,AC [(101,.nm 101),(102,.nm 102),(103,.nm 103),(104,.nm 104),(105,.nm 105),(106,.nm 106),(107,.nm 107),(108,.nm 108),(109,.nm 109),(110,.nm 110),(64,.nm 64)] rfl rfl ?_ ?_⟩
                   ·simp only[uO,←eA]
                    first|exact eN|refine eM ?_
                    exact hlen3.symm
                   ·simp only[←eA]
                    first|exact eN|refine eM ?_
       ·exact Int.ofNat_lt.2 (by omega)
       ·have hie:i=xs.length:=by
         have:=Int.ofNat_le.1 AA
         omega
        subst hie
        obtain⟨t,ht⟩:=hpre
        have hid:Be (oo xs.length) n2=(o.length:Int):=by
         rw[←ht,T6 (by simp)]
         unfold Be
         rw[if_pos (by simp),Tz hno]
        have hnd:DU (quo p0 ty ar) (oo xs.length) n2=(ty.getD n2.toNat 0,xs.map fun a=>(a.1,Be (oo xs.length) (DV p0 a.2))):=by
         unfold DU
         rw[hnode]
         simp only[List.map_map]
         rfl
        have hgd:(out++[(ty.getD n2.toNat 0,([]:List (Int×Int)))]++Gg (quo p0 ty ar) (o++[n2]) (oo xs.length)).getD o.length (0,[])=(ty.getD n2.toNat 0,[]):=by
         rw[←hol]
         simp[List.getD_eq_getElem?_getD]
        have hout:=sL (Q:=quo p0 ty ar) (hplan.pre xs.length)
        rw[hnd]at hout
        rw[List.take_length,hgd,A2h out _ _ _ hol.symm,←hout]
        have hlen4:out.length+1+(Gg (quo p0 ty ar) (o++[n2]) (oo xs.length)).length=(out++Gg (quo p0 ty ar) o (oo xs.length)).length:=by
         rw[hout]
         simp only[List.length_append,List.length_cons]
         omega
        rw[hlen4]
        refine Ev.ent (σ':=⟨[(6,.p T3 (Be (oo xs.length) n2))],uO h q ty ar (Jx p0.length (oo xs.length)) (out++Gg (quo p0 ty ar) o (oo xs.length))⟩) ?_ (AC [(101,.nm 101),(102,.nm 102),(103,.nm 103),(104,.nm 104),(105,.nm 105),(106,.nm 106),(107,.nm 107),(108,.nm 108),(109,.nm 109),(110,.nm 110)] rfl rfl ?_ ?_)
        ·exact BE hc [.tmp 6] rfl (.inl rfl) (.p T3 (Be (oo xs.length) n2)) eT ⟨q,⟨rkq,hfq⟩,hsq,by rw[hstep],by rw[hstep];rfl⟩
        ·unfold uO
         first|exact eN|refine eM ?_
        ·first|exact eN|refine eM ?_
         exact hid.symm
theorem xY (h:AM) {p0 ty:List Int} {ar:List (List (Int×Int))} (hf0:∃rk,Fo p0 rk) (hQ:AY (quo p0 ty ar)) (htl:ty.length=p0.length) (hal:ar.length=p0.length) (har:∀k,∀a∈ar.getD k [],0≤a.2∧a.2<(p0.length:Int)):∀k,A3K h p0 ty ar k
 | 0=>aM h hf0 hQ htl hal har 0 (fun j e=>by cases e)
 | k+1=>aM h hf0 hQ htl hal har (k+1) (fun j e=>by cases e;exact xY h hf0 hQ htl hal har k)
end
/- Functions of unify.classes: graph. -/
section
theorem xZ (len:Nat):Jx len []=List.replicate len (-1):=by
 unfold Jx
 apply List.ext_getElem
 ·simp
 ·intro i h1 h2
  simp
theorem x3 {α:Type} (x y:α) {n i:Nat} (h:i<n):(List.replicate i x++List.replicate (n-i) y).set i x=List.replicate (i+1) x++List.replicate (n-(i+1)) y:=by
 obtain⟨m,hm⟩:∃m,n-i=m+1:=⟨n-i-1,by omega⟩
 have hm2:n-(i+1)=m:=by omega
 rw[hm,hm2,List.set_append_right _ _ (by simp),List.length_replicate,Nat.sub_self,List.replicate_succ,List.set_cons_zero,List.replicate_succ',List.append_assoc]
 rfl
theorem aN (h:AM) {p ty:List Int} {ar:List (List (Int×Int))} (hf0:∃rk,Fo p rk) (hQ:AY (quo p ty ar)) (htl:ty.length=p.length) (hal:ar.length=p.length) (har:∀k,∀a∈ar.getD k [],0≤a.2∧a.2<(p.length:Int)) {r:Int} (r0:0≤r) (r1:r<(p.length:Int)) :
  B8 Tryz.prog 62 [.bp 101 [] 0,.p T3 r] (Rw h p ty ar) [101]
  (fun res _=>res=.p Ds (AO (quo p ty ar) (DV p r))):=by
 have hvis:=xY h hf0 hQ htl hal har p.length p [] [] r hf0 (ER.refl p) ⟨by simp,fun x hx=>by cases hx⟩ rfl r0 r1 (by simp)
 have hcan:Gg (quo p ty ar) [] (Ab (quo p ty ar) p.length [] (0,DV p r))=AO (quo p ty ar) (DV p r):=by
  have e:Ab (quo p ty ar) p.length [] (0,DV p r)=DT (quo p ty ar) p.length [] (DV p r):=if_neg (by simp)
  rw[e]
  unfold Gg AO
  rw[Dn]
  rfl
 rw[List.nil_append,hcan,xZ]at hvis
 have hpl:=hQ.1
 rw[Dn]at hpl
 generalize AO (quo p ty ar) (DV p r)=G at *
 generalize Be _ _=z at hvis
 generalize Jx _ _=M at hvis
 refine CQ Tryz.func62 (by kernel_rfl) rfl Tryz.ntmps62 (by simp only[List.length_cons,List.length_nil];omega) (by kernel_rfl) rfl rfl (AG []) AJ ?_
 intro w0 K O0 ρ0 hc hok1 hok2
 simp only[Rw,BG]
 repeat'(first|exact trivial|refine eS rfl ?_|refine AB ?_|refine rX [0,1,2,4,5,6,7,8,16,17,18] hc ?_ ?_|refine rC ?_ ?_<;>intro AA<;>try(cases AA;done))
 ·simp only[AP];omega
 ·refine AL (ι:={i:Nat//i≤p.length}) (fun i=>⟨[(0,.bp 101 [] 0),(1,.p T3 r),(2,.bp 2 [] 0),(4,.bp 4 [] 0),(5,.bp 5 [] 0),(16,.p (.int .i64) (p.length:Int)),(17,.p (.int .i64) (i.1:Int))],[(5,.box 40 false [.sr 14 T3 0 p.length]),(14,.arr 3 T3 (List.replicate i.1 (-1)++List.replicate (p.length-i.1) 0)),(4,.box 25 true [.raw (.slice none 0 0)]),(2,.box 91 false [.bp 101 [] 0]),(101,.box 94 true [.p GD h,.sr 102 T3 0 p.length,.sr 103 T3 0 ty.length,.sr 104 CE 0 ar.length]),(102,.arr 3 T3 p),(103,.arr 3 T3 ty),(104,.arr 86 CE ar)]⟩) (fun i=>p.length-i.1) ⟨0,by omega⟩ (AC [(5,.nm 5),(14,.nm 14),(4,.nm 4),(2,.nm 2),(101,.nm 101),(102,.nm 102),(103,.nm 103),(104,.nm 104)] rfl rfl ?_ ?_) (fun i=>?_)
  ·first|exact eN|refine eM ?_
   rfl
  ·first|exact eN|refine eM ?_
  ·obtain⟨i,hi⟩:=i
   simp only
   repeat'(first|exact trivial|refine eS rfl ?_|refine AB ?_|refine rX [0,1,2,4,5,6,7,8,16,17,18] hc ?_ ?_|refine rC ?_ ?_<;>intro AA<;>try(cases AA;done))
   ·exact AA
   ·exact eV
   ·have hip:i<p.length:=Int.ofNat_lt.1 AA
    refine⟨⟨i+1,hip⟩,by simp only;omega,AC [(5,.nm 5),(14,.nm 14),(4,.nm 4),(2,.nm 2),(101,.nm 101),(102,.nm 102),(103,.nm 103),(104,.nm 104)] rfl rfl ?_ ?_⟩
    ·first|exact eN|refine eM ?_
     exact x3 _ _ hip
    ·first|exact eN|refine eM ?_
   ·have hie:i=p.length:=by
     have:=Int.ofNat_le.1 AA
     omega
    subst hie
    rw[Nat.sub_self,List.replicate_zero,List.append_nil]
    refine cP 2 hc ?_ ?_
    ·trivial
    ·refine rM hc (hvis) [(101,.nm 101),(102,.nm 102),(103,.nm 103),(104,.nm 104),(105,.nm 2),(106,.nm 5),(107,.nm 14),(108,.nm 7),(109,.nil),(110,.nm 8)] [102,103,104,14] ?_ ?_ ?_
     ·first|exact eN|refine eM ?_
     ·simp only[uO]
      first|exact eN|refine eM ?_
      exact List.length_replicate.symm
     ·rintro _ _ ⟨p',hfo',sm',rfl,rfl⟩
      refine⟨[(101,.nm 101),(102,.nm 102),(103,.nm 103),(104,.nm 104),(2,.nm 105),(5,.nm 106),(14,.nm 107),(7,.nm 108),(120,.nm 109),(8,.nm 110)],.p T3 z,[(101,.box 94 true [.p GD h,.sr 102 T3 0 p'.length,.sr 103 T3 0 ty.length,.sr 104 CE 0 ar.length]),(102,.arr 3 T3 p'),(103,.arr 3 T3 ty),(104,.arr 86 CE ar),(2,.box 91 false [.bp 101 [] 0]),(5,.box 40 false [.sr 14 T3 0 M.length]),(14,.arr 3 T3 M),(7,.box 25 true [.sr 120 J9 0 G.length]),(120,.arr 88 J9 G),(8,.box 160 false [.clo 103 [2,5,7,8]])],rfl,rfl,?_,?_,rfl,rfl,Dc ?_⟩
      ·simp only[uO]
       first|exact eN|refine eM ?_
      ·first|exact eN|refine eM ?_
      ·refine Gr [120] ?_
       repeat'(first|exact trivial|refine eS rfl ?_|refine AB ?_|refine rX [0,1,2,4,5,6,7,8,16,17,18] hc ?_ ?_|refine rC ?_ ?_<;>intro AA<;>try(cases AA;done))
       exact BE hc [.cell 4 25] rfl (.inl rfl) (.p Ds G) eT rfl
end
/- Plain: the graph of the classes is the most general structure into which the nodes go so that the pairs are one. -/
section
structure A72 (f:List AE) (r:Int) (o:List Int):Prop where
 ok:LF f o
 zero:o.getD 0 0=r∧0<o.length
 cl:∀n∈o,∀a∈AR f n,a.2∈o
theorem MD {f:List AE} (hf:AY f) {r:Int} (r0:0≤r) (r1:r<(f.length:Int)):A72 f r (DT f f.length [] r):=by
 have h1:=Dm hf f.length [] r (Gt f) r0 r1 (by simp)
 have h2:=Hd hf f.length [] r (Gt f) r0 r1 (by simp) (by simp)
 have h3:[r] <+: DT f f.length [] r:=by
  obtain⟨k,hk⟩:∃k,f.length=k+1:=⟨f.length-1,by omega⟩
  rw[hk,CN]
  exact(EP (Dm hf k) _ _ (fun a ha=>BC hf ha) ((Gt f).snoc r0 r1 (by simp))).2
 refine⟨h1.1,?_,fun n hn a ha=>?_⟩
 ·obtain⟨t,ht⟩:=h3
  rw[←ht]
  exact⟨rfl,by simp⟩
 ·rcases h2.2 n hn with h|h
  ·cases h
  ·exact h a ha
theorem LP {f:List AE} {r:Int} {i:Nat} (hi:i<(DT f f.length [] r).length):(AO f r).getD i (0,[])=DU f (DT f f.length [] r) ((DT f f.length [] r).getD i 0):=by
 unfold AO
 simp[List.getD_eq_getElem?_getD,hi]
theorem LQ (f:List AE) (r:Int):(AO f r).length=(DT f f.length [] r).length:=by simp[AO]
def AQ (f g:List AE):List AE:=f++g.map fun x=>(x.1,Ap f.length x.2)
theorem BJ (f g:List AE):(AQ f g).length=f.length+g.length:=by simp[AQ]
theorem NM {f g:List AE} {x:Int} (x0:0≤x) (x1:x<(f.length:Int)):(AQ f g).getD x.toNat (0,[])=f.getD x.toNat (0,[]):=by
 unfold AQ
 rw[List.getD_eq_getElem?_getD,List.getD_eq_getElem?_getD,List.getElem?_append_left (by omega)]
theorem LR {f g:List AE} {y:Int} (y0:0≤y) (y1:y<(g.length:Int)):(AQ f g).getD ((f.length:Int)+y).toNat (0,[])=((g.getD y.toNat (0,[])).1,Ap f.length (g.getD y.toNat (0,[])).2):=by
 unfold AQ
 have e:((f.length:Int)+y).toNat=f.length+y.toNat:=by omega
 rw[e,List.getD_eq_getElem?_getD,List.getElem?_append_right (by omega),Nat.add_sub_cancel_left]
 rw[←List.getD_eq_getElem?_getD]
 exact Pw (fun x:AE=>(x.1,Ap f.length x.2)) (0,[]) (0,[]) (by omega)
theorem oT {n:Nat} {p:List Int} {x y:Int} (h:EG n p [] x y):DV p x=DV p y:=by
 induction h with
 | cls _ _ _ _ h g=>rw[Tv h,Tv g]
 | wt h=>cases h
 | symm _ ih=>exact ih.symm
 | trans _ _ ih1 ih2=>exact ih1.trans ih2
noncomputable abbrev MQ (p ty:List Int) (ar:List (List (Int×Int))):List Int:=DT (quo p ty ar) (quo p ty ar).length [] (DV p 0)
structure A2X (h:AM) (N:List AE) (P:List (Int×Int)) (U:List AE) (v:Int→Int):Prop where
 good:AY U
 pos:0<U.length
 str:∀x∈U,KN x.2
 feat:∀x∈U,∀a∈x.2,a.1∈DN N
 ty:D7 h U
 ro:RO U
 zero:v 0=0
 proj:X3 h N P U v
 least:∀X w,D7 h X→X3 h N P X w→w 0=0→∃m,MB h U X m
 len:U.length≤N.length
section
variable {h:AM} {N:List AE} {P:List (Int×Int)} {p ty:List Int} {ar:List (List (Int×Int))}
theorem Px (hj:JI h N P p ty ar []) (hQ:AY (quo p ty ar)) (hN:0<N.length):A72 (quo p ty ar) (DV p 0) (MQ p ty ar):=by
 obtain⟨rk,fo⟩:=hj.fo
 have lp:=hj.lp
 have:=Fi fo (x:=0) (by omega) (by omega) (NL fo (by omega) (by omega))
 exact MD hQ this.1 (by rw[Dn];exact this.2)
theorem NP (hj:JI h N P p ty ar []) (hQ:AY (quo p ty ar)) (hN:0<N.length):DV p 0∈MQ p ty ar:=by
 have ho:=Px hj hQ hN
 have:=AD (MQ p ty ar) 0 ho.zero.2
 rw[ho.zero.1]at this
 exact this
theorem T7 (hj:JI h N P p ty ar []) {x y:Int} (hq:(x,y)∈P) (hx:DV p x∈MQ p ty ar):DV p y∈MQ p ty ar:=by
 rw[←oT (hj.sp (x,y) hq)]
 exact hx
theorem fB (hj:JI h N P p ty ar []) (hQ:AY (quo p ty ar)) (hN:0<N.length) {x:Int} (x0:0≤x) (x1:x<(N.length:Int)) (hx:DV p x∈MQ p ty ar) {a:Int×Int} (ha:a∈AR N x):DV p a.2∈MQ p ty ar:=by
 obtain⟨rk,fo⟩:=hj.fo
 have lp:=hj.lp
 obtain⟨t,ht,he⟩:=hj.sa x _ x0 x1 (NL fo x0 (by omega)) a ha
 rw[oT he]
 have hr:=Fi fo x0 (by omega) (NL fo x0 (by omega))
 refine(Px hj hQ hN).cl _ hx (a.1,DV p t) ?_
 rw[AR,Jw hr.1 hr.2]
 exact List.mem_map.2 ⟨(a.1,t),ht,rfl⟩
def X5 (N:List AE) (k:Nat) (g:List AE):Prop:=∀i:Int,0≤i→i<(g.length:Int)→(k:Int)+i<(N.length:Int)∧N.getD ((k:Int)+i).toNat (0,[])=((g.getD i.toNat (0,[])).1,Ap k (g.getD i.toNat (0,[])).2)
theorem He (hj:JI h N P p ty ar []) (hQ:AY (quo p ty ar)) (hN:0<N.length) {k:Nat} {g:List AE} (hc:X5 N k g) (rg:RO g) (hk:DV p (k:Int)∈MQ p ty ar):∀(n:Nat) (i:Int),i.toNat≤n→0≤i→i<(g.length:Int)→DV p ((k:Int)+i)∈MQ p ty ar:=by
 intro n
 induction n with
 | zero =>
  intro i hn i0 i1
  have:i=0:=by omega
  subst this
  rw[Int.add_zero]
  exact hk
 | succ n ih =>
  intro i hn i0 i1
  by_cases hi:i=0
  ·subst hi
   rw[Int.add_zero]
   exact hk
  ·obtain⟨j,j0,j1,a,ha,rfl⟩:=rg i (by omega) i1
   have hcj:=hc j j0 (by omega)
   have:=fB hj hQ hN (x:=(k:Int)+j) (by omega) hcj.1 (ih j (by omega) j0 (by omega)) (a:=(a.1,a.2+(k:Int))) (by
    rw[AR,hcj.2]
    exact List.mem_map.2 ⟨a,ha,rfl⟩)
   rw[Int.add_comm]
   exact this
end
theorem LS {h:AM} {N:List AE} {P:List (Int×Int)} {U:List AE} {v:Int→Int} (hx:X3 h N P U v) {k:Nat} {g:List AE} (hc:X5 N k g) (hz:v (k:Int)=0):MB h g U fun i=>v ((k:Int)+i):=by
 refine⟨by show v ((k:Int)+0)=0;rw[Int.add_zero];exact hz,fun i i0 i1=>?_,fun i i0 i1=>?_,fun i i0 i1 a ha=>?_⟩
 ·exact hx.rng _ (by omega) (hc i i0 i1).1
 ·have:=hx.ty _ (by omega) (hc i i0 i1).1
  rw[(hc i i0 i1).2]at this
  exact this
 ·have:=hx.arc _ (by omega) (hc i i0 i1).1 (a.1,a.2+(k:Int)) (by
   rw[AR,(hc i i0 i1).2]
   exact List.mem_map.2 ⟨a,ha,rfl⟩)
  rw[Int.add_comm (k:Int) a.2]
  exact this
theorem Jy {h:AM} {g X:List AE} {m:Int→Int} (hm:MB h g X m):X3 h g [] X m:=⟨hm.rng,hm.ty,hm.arc,fun q hq=>by cases hq⟩
theorem Ox {h:AM} {f g X:List AE} (hf:AY f) (hg:AY g) {v w:Int→Int} (h1:X3 h f [] X v) (h2:X3 h g [] X w):X3 h (AQ f g) [] X (fun x=>if x<(f.length:Int) then v x else w (x-(f.length:Int))):=by
 have hl:=BJ f g
 refine⟨fun x x0 x1=>?_,fun x x0 x1=>?_,fun x x0 x1 a ha=>?_,fun q hq=>by cases hq⟩
 ·rw[hl]at x1
  show _∧_
  try simp only
  split
  ·exact h1.rng x x0 (by assumption)
  ·exact h2.rng _ (by omega) (by omega)
 ·rw[hl]at x1
  try simp only
  by_cases hx:x<(f.length:Int)
  ·rw[if_pos hx,NM x0 hx]
   exact h1.ty x x0 hx
  ·rw[if_neg hx]
   have:=LR (f:=f) (g:=g) (y:=x-(f.length:Int)) (by omega) (by omega)
   rw[show (f.length:Int)+(x-(f.length:Int))=x by omega]at this
   rw[this]
   exact h2.ty _ (by omega) (by omega)
 ·rw[hl]at x1
  try simp only
  by_cases hx:x<(f.length:Int)
  ·rw[if_pos hx]
   rw[AR,NM x0 hx]at ha
   have hr:=BC hf ha
   rw[if_pos hr.2]
   exact h1.arc x x0 hx a ha
  ·rw[if_neg hx]
   have:=LR (f:=f) (g:=g) (y:=x-(f.length:Int)) (by omega) (by omega)
   rw[show (f.length:Int)+(x-(f.length:Int))=x by omega]at this
   rw[AR,this]at ha
   obtain⟨b,hb,rfl⟩:=List.mem_map.1 ha
   have hr:=BC hg hb
   rw[if_neg (by simp only;omega)]
   try simp only
   rw[show b.2+(f.length:Int)-(f.length:Int)=b.2 by omega]
   exact h2.arc _ (by omega) (by omega) b hb
theorem fC {h:AM} {N X:List AE} {P:List (Int×Int)} {v:Int→Int} (h1:X3 h N [] X v) (he:∀q∈P,v q.1=v q.2):X3 h N P X v:=⟨h1.rng,h1.ty,h1.arc,he⟩
theorem JE {N f g:List AE} {k:Nat} (h:X5 f k N):X5 (AQ f g) k N:=by
 intro i i0 i1
 have:=h i i0 i1
 rw[BJ,NM (by omega) this.1]
 exact⟨by omega,this.2⟩
theorem Py {f:List AE}:X5 f 0 f:=by
 intro i i0 i1
 rw[show ((0:Nat):Int)+i=i by omega]
 refine⟨i1,?_⟩
 have:Ap 0 (f.getD i.toNat (0,[])).2=(f.getD i.toNat (0,[])).2:=by
  unfold Ap
  rw[List.map_congr_left (g:=id) (fun a _=>by show (a.1,a.2+((0:Nat):Int))=a;rw[Int.natCast_zero,Int.add_zero]),List.map_id]
 rw[this]
theorem Jz {f g:List AE}:X5 (AQ f g) f.length g:=by
 intro i i0 i1
 rw[BJ,LR i0 i1]
 exact⟨by omega,rfl⟩
set_option maxHeartbeats 1000000 in
theorem x4 {h:AM} {N:List AE} {P:List (Int×Int)} {p ty:List Int} {ar:List (List (Int×Int))} (hj:JI h N P p ty ar []) (hQ:AY (quo p ty ar)) (hN:0<N.length) (hall:∀x,0≤x→x<(N.length:Int)→DV p x∈MQ p ty ar) :
  A2X h N P (AO (quo p ty ar) (DV p 0)) (fun x=>Be (MQ p ty ar) (DV p x)):=by
 have ho:=Px hj hQ hN
 have hin0:=NP hj hQ hN
 obtain⟨nty,⟨rk,fo⟩,lp,lt,la,wr,tyr,arr,srt,sp,st,sa,co⟩:=hj
 have hql:=Dn p ty ar
 have hrt:=fun {x:Int} (x0:0≤x) (x1:x<(N.length:Int))=>NL fo x0 (by rw[lp];exact x1)
 have hrr:=fun {x:Int} (x0:0≤x) (x1:x<(N.length:Int))=>Fi fo x0 (by rw[lp];exact x1) (hrt x0 x1)
 have hUl:=LQ (quo p ty ar) (DV p 0)
 have hUg:=fun i=>LP (f:=quo p ty ar) (r:=DV p 0) (i:=i)
 have hqa:∀x:Int,0≤x→x<(N.length:Int)→AR (quo p ty ar) x=(ar.getD x.toNat []).map fun a=>(a.1,DV p a.2):=fun x x0 x1=>by
  rw[AR,Jw x0 (by rw[lp];exact x1)]
 have hroots:∀x∈MQ p ty ar,(0≤x∧x<(N.length:Int))∧DH p x=x:=by
  have hiso:Iso (quo p ty ar) (quo p ty ar) id (fun x=>(0≤x∧x<(N.length:Int))∧DH p x=x):=by
   refine⟨fun i _=>by simp,fun i hi a ha=>?_,fun i j _ _ e=>e⟩
   rw[hqa i hi.1.1 hi.1.2]at ha
   obtain⟨b,hb,rfl⟩:=List.mem_map.1 ha
   have hr:=(arr _ b hb).1
   have:=hrr hr.1 hr.2
   rw[lp]at this
   exact⟨this,(hrt hr.1 hr.2).root⟩
  have hr0:=hrr (x:=0) (by omega) (by omega)
  rw[lp]at hr0
  exact(Rs hiso _ [] _ (fun x hx=>by cases hx) ⟨hr0,(hrt (x:=0) (by omega) (by omega)).root⟩).2
 have hlead:=fun(q:Nat)=>Tt hQ (quo p ty ar).length [] (DV p 0) (Gt _) (hrr (x:=0) (by omega) (by omega)).1 (by rw[hql];exact(hrr (x:=0) (by omega) (by omega)).2) (by simp) q
 unfold MQ at ho hin0 hall hroots ⊢
 generalize hU:AO (quo p ty ar) (DV p 0)=U at *
 generalize hod:DT (quo p ty ar) (quo p ty ar).length [] (DV p 0)=o at *
 have hmem:∀i:Int,0≤i→i<(o.length:Int)→o.getD i.toNat 0∈o∧Be o (o.getD i.toNat 0)=i:=fun i i0 i1=>by
  refine⟨AD o 0 (by omega),?_⟩
  rw[GU ho.ok.nd (by omega)]
  omega
 have hnode:∀x∈o,U.getD (Be o x).toNat (0,[])=(ty.getD x.toNat 0,(ar.getD x.toNat []).map fun a=>(a.1,Be o (DV p a.2))):=fun x hx=>by
  have hz:=Dt hx
  have hr:=(hroots x hx).1
  rw[hUg _ (by omega),hz.2.2]
  unfold DU
  rw[Jw hr.1 (by rw[lp];exact hr.2),List.map_map]
  rfl
 have hcl:∀x∈o,∀a∈ar.getD x.toNat [],DV p a.2∈o:=fun x hx a ha=>by
  have hr:=(hroots x hx).1
  exact ho.cl x hx (a.1,DV p a.2) (by rw[hqa x hr.1 hr.2];exact List.mem_map.2 ⟨a,ha,rfl⟩)
 have hstr:∀k,KN ((ar.getD k []).map fun a=>(a.1,Be o (DV p a.2))):=fun k=>by
  unfold KN
  rw[List.pairwise_map]
  exact srt k
 have hUm:∀x∈U,∃y∈o,x=(ty.getD y.toNat 0,(ar.getD y.toNat []).map fun a=>(a.1,Be o (DV p a.2))):=fun x hx=>by
  obtain⟨i,hi,rfl⟩:=Cu (0,[]) hx
  have h1:=hmem (i:Int) (by omega) (by omega)
  refine⟨_,h1.1,?_⟩
  rw[←hnode _ h1.1,h1.2]
  rw[Int.toNat_natCast]
 have hi0:Be o (DV p 0)=0:=by
  have:=GU ho.ok.nd ho.zero.2
  rw[ho.zero.1]at this
  exact this
 have hlen:=ho.ok.len
 have hQ1:=hQ.1
 refine⟨⟨by omega,fun x hx=>?_⟩,by rw[hUl];exact ho.zero.2,fun x hx=>?_,fun x hx a ha=>?_,fun x hx=>?_,fun i i0 i1=>?_,hi0,⟨fun i i0 i1=>?_,fun i i0 i1=>?_,fun i i0 i1 a ha=>?_,fun q hq=>?_⟩,fun X v hX hv hv0=>?_,by omega⟩
 ·obtain⟨y,hy,rfl⟩:=hUm x hx
  have hr:=(hroots y hy).1
  refine⟨?_,fun a ha=>?_⟩
  ·have:=(hQ.2 _ (AD (quo p ty ar) (0,[]) (k:=y.toNat) (by omega))).1
   rw[Jw hr.1 (by rw[lp];exact hr.2),List.length_map]at this
   simp only[List.length_map]
   exact this
  ·obtain⟨b,hb,rfl⟩:=List.mem_map.1 ha
   have:=Dt (hcl y hy b hb)
   rw[hUl]
   exact⟨this.1,this.2.1⟩
 ·obtain⟨y,hy,rfl⟩:=hUm x hx
  exact hstr _
 ·obtain⟨y,hy,rfl⟩:=hUm x hx
  obtain⟨b,hb,rfl⟩:=List.mem_map.1 ha
  exact(arr _ b hb).2
 ·obtain⟨y,hy,rfl⟩:=hUm x hx
  have hr:=(hroots y hy).1
  exact tyr y hr.1 hr.2
 · -- in order
  obtain⟨j,j1,a,ha,e⟩:=hlead i.toNat (by simp only[List.length_nil];omega) (by omega)
  have h1:=hmem (j:Int) (by omega) (by omega)
  have h2:=hmem i (by omega) (by omega)
  rw[Int.toNat_natCast]at h1
  have hr:=(hroots _ h1.1).1
  rw[hqa _ hr.1 hr.2]at ha
  obtain⟨b,hb,rfl⟩:=List.mem_map.1 ha
  refine⟨(j:Int),by omega,by omega,(b.1,Be o (DV p b.2)),?_,?_⟩
  ·have:=hnode _ h1.1
   rw[h1.2]at this
   rw[AR,this]
   exact List.mem_map.2 ⟨b,hb,rfl⟩
  ·show Be o (DV p b.2)=i
   simp only at e
   rw[e,h2.2]
 ·have:=Dt (hall i i0 i1)
  rw[hUl]
  exact⟨this.1,this.2.1⟩
 ·show CH h _ (U.getD (Be o (DV p i)).toNat (0,[])).1=true
  rw[hnode _ (hall i i0 i1)]
  exact st i _ i0 i1 (hrt i0 i1)
 ·obtain⟨t,ht,he⟩:=sa i _ i0 i1 (hrt i0 i1) a ha
  have e:=oT he
  show DI (AR U (Be o (DV p i))) a.1=Be o (DV p a.2)
  rw[e,AR,hnode _ (hall i i0 i1)]
  exact JD (hstr _) (a:=(a.1,Be o (DV p t))) (List.mem_map.2 ⟨(a.1,t),ht,rfl⟩)
 ·show Be o (DV p q.1)=Be o (DV p q.2)
  rw[oT (sp q hq)]
 ·obtain⟨c1,c2,c3,c4⟩:=co X v hX hv
  refine⟨fun i=>v (o.getD i.toNat 0),?_,fun i i0 i1=>?_,fun i i0 i1=>?_,fun i i0 i1 a ha=>?_⟩
  ·show v (o.getD 0 0)=0
   rw[ho.zero.1,←c1 0 _ (by omega) (by omega) (hrt (by omega) (by omega))]
   exact hv0
  ·have h3:=hmem i i0 (by omega)
   have hr:=(hroots _ h3.1).1
   exact hv.rng _ hr.1 hr.2
  ·have h3:=hmem i i0 (by omega)
   have hr:=hroots _ h3.1
   have hn:=hnode _ h3.1
   rw[h3.2]at hn
   rw[hn]
   exact c3 _ hr.1.1 hr.1.2 hr.2
  ·have h3:=hmem i i0 (by omega)
   have hr:=hroots _ h3.1
   have hn:=hnode _ h3.1
   rw[h3.2]at hn
   rw[AR,hn]at ha
   obtain⟨b,hb,rfl⟩:=List.mem_map.1 ha
   have h4:=c4 _ hr.1.1 hr.1.2 hr.2 b hb
   have hbr:=(arr _ b hb).1
   have h5:=Dt (hcl _ h3.1 b hb)
   simp only
   rw[h5.2.2,←c1 b.2 _ hbr.1 hbr.2 (hrt hbr.1 hbr.2)]
   exact h4
end
/- Plain: types of one set are one. -/
section
def Nrm (c:List Int):Prop:=c.length=0∨c.getD (c.length-1) 0≠0
theorem NQ (b:List Int):Nrm (BH b):=by
 unfold Nrm BH
 have hl:=Sy b b.length
 rw[List.length_take,Nat.min_eq_left hl]
 rcases Pi b b.length with h|h
 ·exact .inl h
 ·by_cases h0:Cc b b.length=0
  ·exact .inl h0
  ·right
   rw[List.getD_eq_getElem?_getD,List.getElem?_take_of_lt (by omega),←List.getD_eq_getElem?_getD]
   exact h
theorem A2i {a b:List Int} (ha:H8 a) (hb:H8 b) (h:∀i,BR a i=BR b i) (k:Nat):a.getD k 0=b.getD k 0:=by
 have ua:=A8 ha k
 have ub:=A8 hb k
 have ua1:=ua.1
 have ua2:=ua.2
 have ub1:=ub.1
 have ub2:=ub.2
 have e:(a.getD k 0).toNat=(b.getD k 0).toNat:=by
  refine Nat.eq_of_testBit_eq fun r=>?_
  by_cases hr:r<64
  ·have:=h (64*k+r)
   unfold BR at this
   rw[show (64*k+r) / 64=k by omega,show (64*k+r) % 64=r by omega]at this
   exact this
  ·have big:∀n:Nat,n<18446744073709551616→n.testBit r=false:=fun n hn=>by
    have e:(18446744073709551616:Nat)=2 ^ 64:=by decide
    rw[e]at hn
    exact Nat.testBit_lt_two_pow (Nat.lt_of_lt_of_le hn (Nat.pow_le_pow_right (by decide) (by omega)))
   rw[big _ (by omega),big _ (by omega)]
 omega
theorem oU {a b:List Int} (hw:∀k,a.getD k 0=b.getD k 0) (hb:Nrm b):b.length≤a.length:=by
 rcases hb with h|h
 ·omega
 ·refine Classical.byContradiction fun hc=>h ?_
  rw[←hw]
  exact GR (by omega)
theorem x5 {a b:List Int} (ha:H8 a) (hb:H8 b) (na:Nrm a) (nb:Nrm b) (h:∀i,BR a i=BR b i):a=b:=by
 have hw:=A2i ha hb h
 have hl:a.length=b.length:=Nat.le_antisymm (oU (fun k=>(hw k).symm) na) (oU hw nb)
 refine List.ext_getElem hl fun i h1 h2=>?_
 have:=hw i
 simpa[List.getD_eq_getElem?_getD,h1,h2] using this
theorem aO {α:Type} (l:List α) (x:α) (n:Nat):List.Perm (l.take n++[x]++l.drop n) (x :: l):=by
 have h:l.take n++[x]++l.drop n=l.take n++x :: l.drop n:=by simp
 rw[h]
 refine List.perm_middle.trans ?_
 rw[List.take_append_drop]
def Apt (l:List ByteArray):Prop:=l.Pairwise fun a b=>Ar a b=false
theorem Q3 {a b:ByteArray} (h:Ar a b=false):Ar b a=false:=by
 cases hh:Ar b a with
 | false=>rfl
 | true=>rw[E2 hh]at h;cases h
theorem x6 {l:List ByteArray} {s:ByteArray} (h:Apt l) (hs:∀x∈l,Ar x s=false):Apt (D6 l s):=by
 unfold D6
 split
 ·exact h
 ·refine(List.Perm.pairwise_iff (fun hxy=>Q3 hxy) (aO l s _)).2 ?_
  exact List.pairwise_cons.2 ⟨fun x hx=>Q3 (hs x hx),h⟩
theorem fD {d:List AK} (hn:Dd d=0):Apt (AX d):=by
 have key:∀k,k≤d.length→Apt (AX (d.take k))∧∀s∈AX (d.take k),∃i,i<k∧(d.getD i d0).1=s:=by
  intro k
  induction k with
  | zero =>
   intro _
   exact⟨.nil,fun s hs=>by cases hs⟩
  | succ k ih =>
   intro hk
   obtain⟨h1,h2⟩:=ih (by omega)
   have e:AX (d.take (k+1))=D6 (AX (d.take k)) (d.getD k d0).1:=by
    have:d.take (k+1)=d.take k++[d.getD k d0]:=Ac d d0 (by omega)
    rw[this]
    unfold AX
    rw[List.foldl_append]
    rfl
   rw[e]
   refine⟨x6 h1 fun x hx=>?_,fun s hs=>?_⟩
   ·obtain⟨i,hi,rfl⟩:=h2 x hx
    cases hh:Ar (d.getD i d0).1 (d.getD k d0).1 with
    | false=>rfl
    | true =>
     have g:=Qt d hh
     rw[Ob hn (j:=i) (by omega),Ob hn (j:=k) (by omega)]at g
     omega
   ·rcases Oc hs with hs|hs
    ·obtain⟨i,hi,e⟩:=h2 s hs
     exact⟨i,by omega,e⟩
    ·exact⟨k,by omega,hs.symm⟩
 have:=(key d.length (Nat.le_refl _)).1
 rwa [List.take_length]at this
structure Nd (l:List (List Int)):Prop where
 nd:l.Nodup
 nrm:∀c∈l,Nrm c
theorem A2j {l:List (List Int)} {c:List Int} (h:Nd l) (hc:c∉l) (hn:Nrm c):Nd (l++[c]):=by
 refine⟨?_,fun x hx=>?_⟩
 ·rw[List.nodup_append]
  refine⟨h.nd,by simp,fun x hx y hy e=>hc ?_⟩
  have:y=c:=by simpa using hy
  rw[←this,←e]
  exact hx
 ·rcases List.mem_append.1 hx with hx|hx
  ·exact h.nrm x hx
  ·have:x=c:=by simpa using hx
   rw[this]
   exact hn
theorem A2k {l:List (List Int)} (h:Nd l) (i k:Nat):Nd (Gd l i k):=by
 unfold Gd
 split
 ·rename_i hc
  rw[Bool.and_eq_true,Bool.not_eq_true']at hc
  refine A2j h (fun hm=>?_) (NQ _)
  have:dQ l (Fb (l.getD i []) (l.getD k []))=true:=List.any_eq_true.2 ⟨_,hm,by unfold HO;exact decide_eq_true rfl⟩
  rw[this]at hc
  cases hc.2
 ·exact h
theorem oV {i:Nat}:∀ {n k:Nat} {l:List (List Int)},Nd l→Nd (Ge i n k l)
 | 0,_,_,h=>h
 | n+1,k,l,h=>by
  unfold Ge
  split
  ·exact oV (A2k h i k)
  ·exact h
theorem X6:∀ {n i:Nat} {l:List (List Int)},Nd l→Nd (IW n i l)
 | 0,_,_,h=>h
 | n+1,i,l,h=>by
  unfold IW
  split
  ·exact X6 (oV h)
  ·exact h
theorem WT {d:List AK} (h3:BK d=0):Nd (Ah d):=by
 obtain⟨-,h2,-,hn,hl⟩:=A7 h3
 have hnl:=E0 d d.length
 rw[List.take_length]at hnl
 have hap:=fD hn
 refine⟨?_,fun c hc=>?_⟩
 ·unfold Ah List.Nodup
  rw[List.pairwise_map,List.pairwise_iff_getElem]
  intro i j hi hj hij e
  have h1:=(List.pairwise_iff_getElem.1 hap) i j hi hj hij
  have g:∀k,(hk:k<(AX d).length)→(AX d).getD k ByteArray.empty=(AX d)[k]:=fun k hk=>by simp[List.getD_eq_getElem?_getD,hk]
  have hw:=(EM (d:=d) (all:=AX d) (by omega) (AX d)[j] 0).2.1
  have h5:=Zm hn hl h2 hi hj (by
   rw[g i hi,g j hj,e]
   unfold Fc
   have:=(d8 hw hw).2 fun _ h=>h
   rw[this]
   rfl)
  rw[g i hi,g j hj,h1]at h5
  cases h5
 ·obtain⟨s,hs,rfl⟩:=List.mem_map.1 hc
  unfold Gj zQ
  split
  ·exact NQ _
  ·exact .inl rfl
theorem LT {d:List AK}:∀ {l:List (List Int)} {o:List AW},(o.map (·.2)++l).Nodup→((l.foldl (Pg d) o).map (·.2)).Nodup
 | [],o,h=>by simpa using h
 | b :: l,o,h=>by
  rw[List.foldl_cons]
  refine LT ?_
  unfold Pg F7 Xf
  have hp:=(aO o (HY d (AX d) (Ah d) b,b) (FF (HY d (AX d) (Ah d) b,b) o o.length)).map (fun x:AW=>x.2)
  have hp2:List.Perm ((o.take (FF (HY d (AX d) (Ah d) b,b) o o.length)++[(HY d (AX d) (Ah d) b,b)]++o.drop (FF (HY d (AX d) (Ah d) b,b) o o.length)).map (fun x:AW=>x.2)++l) (o.map (·.2)++b :: l) :=
   (hp.append_right l).trans (List.perm_middle (a:=b)).symm
  exact hp2.nodup_iff.2 h
def A3L (h:AM):Prop:=∀a b,0≤a→a<(h.1.length:Int)→0≤b→b<(h.1.length:Int)→CH h a b=true→CH h b a=true→a=b
theorem A3M {h:AM} (hk:WB h) (hn:Nd (h.1.map fun t=>t.2.1)):A3L h:=by
 intro a b a0 a1 b0 b1 h1 h2
 have wa:=hk.1.wds _ (CC a0 a1)
 have wb:=hk.1.wds _ (CC b0 b1)
 have e:BM h a=BM h b:=x5 wa wb (hn.nrm _ (CC a0 a1)) (hn.nrm _ (CC b0 b1)) fun i=>by
  rw[Bool.eq_iff_iff]
  exact⟨(CM hk b0 b1 a0 a1).1 h2 i,(CM hk a0 a1 b0 b1).1 h1 i⟩
 have hp:=List.pairwise_iff_getElem.1 hn.nd
 have g:∀k:Int,0≤k→(hk:k<(h.1.length:Int))→BM h k=(h.1.map fun t=>t.2.1)[k.toNat]'(by rw[List.length_map];omega):=fun k k0 k1=>by
  unfold BM
  simp[List.getD_eq_getElem?_getD,show k.toNat<h.1.length by omega]
 rw[g a a0 a1,g b b0 b1]at e
 rcases Int.lt_trichotomy a b with hlt|heq|hlt
 ·exact absurd e (hp a.toNat b.toNat (by rw[List.length_map];omega) (by rw[List.length_map];omega) (by omega))
 ·exact heq
 ·exact absurd e.symm (hp b.toNat a.toNat (by rw[List.length_map];omega) (by rw[List.length_map];omega) (by omega))
theorem Q4 (d:List AK):A3L (AZ d).1:=by
 refine A3M (H9 d) ?_
 unfold AZ
 split
 ·exact⟨.nil,fun c h=>(by cases h)⟩
 ·rename_i hv
  have hv:(BO d).2=0:=Classical.byContradiction hv
  have h5:BN d=0:=by
   unfold BO at hv
   split at hv
   ·rename_i h;exact absurd hv h
   ·rename_i h;exact Classical.byContradiction h
  obtain⟨hz,-,-⟩:=CT h5
  obtain⟨h3,hlen,-⟩:=Bc hz
  have hf:Nd (A1 (Ah d)):=X6 (WT h3)
  have e:((GS d).1.map fun t=>t.2.1)=(A0 d).map fun x=>x.2:=by
   show ((Es _ _ _).map fun t=>t.2.1)=_
   unfold Es
   rw[List.map_map]
   apply List.ext_getElem
   ·simp
   ·intro i h1 h2
    simp[List.getD_eq_getElem?_getD,show i<(A0 d).length by simpa using h1]
  show Nd ((GS d).1.map fun t=>t.2.1)
  rw[e]
  refine⟨LT (by simpa using hf.nd),fun c hc=>?_⟩
  obtain⟨x,hx,rfl⟩:=List.mem_map.1 hc
  obtain⟨b,hb,rfl⟩:=Dh.1 hx
  exact hf.nrm b hb
end
/- Plain: maps of structures in order are one; the most general structure of two is one. -/
section
structure VF (h:AM) (f:List AE):Prop where
 good:AY f
 pos:0<f.length
 ty:D7 h f
 str:∀x∈f,KN x.2
 ft:∀x∈f,∀a∈x.2,0≤a.1∧a.1<(h.2.length:Int)
 can:AO f 0=f
 ro:RO f
structure HU (h:AM):Prop where
 ok:WB h
 inj:A3L h
 ft:h.2.length≤64
theorem x7 {Q:List AE} (hQ:AY Q) {r:Int} (r0:0≤r) (r1:r<(Q.length:Int)):AO (AO Q r) 0=AO Q r:=by
 have ho:=MD hQ r0 r1
 have hUl:=LQ Q r
 have hUg:=fun i=>LP (f:=Q) (r:=r) (i:=i)
 generalize hU:AO Q r=U at *
 generalize hod:DT Q Q.length [] r=o at *
 have hol:=ho.ok.len
 have hQ1:=hQ.1
 have hmem:∀i:Int,0≤i→i<(o.length:Int)→o.getD i.toNat 0∈o∧Be o (o.getD i.toNat 0)=i:=fun i i0 i1=>by
  refine⟨AD o 0 (by omega),?_⟩
  rw[GU ho.ok.nd (by omega)]
  omega
 have harc:∀i:Int,0≤i→i<(o.length:Int)→AR U i=(AR Q (o.getD i.toNat 0)).map (I8 o):=fun i i0 i1=>by
  rw[AR,hUg i.toNat (by omega)]
  rfl
 have hiso:Iso U Q (fun i=>o.getD i.toNat 0) (fun i=>0≤i∧i<(o.length:Int)):=by
  refine⟨fun i hi=>?_,fun i hi a ha=>?_,fun i j hi hj e=>?_⟩
  ·rw[harc i hi.1 hi.2,List.map_map]
   have:∀a∈AR Q (o.getD i.toNat 0),((fun a:Int×Int=>(a.1,o.getD a.2.toNat 0))∘I8 o) a=a:=fun a ha=>by
    show (a.1,o.getD (Be o a.2).toNat 0)=a
    rw[(Dt (ho.cl _ (hmem i hi.1 hi.2).1 a ha)).2.2]
   rw[List.map_congr_left this,List.map_id']
  ·rw[harc i hi.1 hi.2]at ha
   obtain⟨b,hb,rfl⟩:=List.mem_map.1 ha
   have:=Dt (ho.cl _ (hmem i hi.1 hi.2).1 b hb)
   exact⟨this.1,this.2.1⟩
  ·have h1:=(hmem i hi.1 hi.2).2
   have h2:=(hmem j hj.1 hj.2).2
   have e:o.getD i.toNat 0=o.getD j.toNat 0:=e
   rw[←h1,←h2,e]
 have h0:(0:Int)<(o.length:Int):=by have:=ho.zero.2;omega
 have hUgood:AY U:=by
  refine⟨by omega,fun x hx=>?_⟩
  obtain⟨i,hi,rfl⟩:=Cu (0,[]) hx
  have h1:=harc (i:Int) (by omega) (by omega)
  rw[AR,Int.toNat_natCast]at h1
  rw[h1]
  have hm:=hmem (i:Int) (by omega) (by omega)
  rw[Int.toNat_natCast]at hm
  have hr:=ho.ok.rng _ hm.1
  refine⟨?_,fun a ha=>?_⟩
  ·rw[List.length_map]
   exact(hQ.2 _ (AD Q (0,[]) (k:=(o.getD i 0).toNat) (by omega))).1
  ·obtain⟨b,hb,rfl⟩:=List.mem_map.1 ha
   have:=Dt (ho.cl _ hm.1 b hb)
   rw[hUl]
   exact⟨this.1,this.2.1⟩
 have hd:=Rs hiso Q.length [] 0 (fun x hx=>by cases hx) ⟨by omega,h0⟩
 have hz:o.getD (0:Int).toNat 0=r:=ho.zero.1
 rw[List.map_nil,hz,hod]at hd
 have hfu:=Ts hUgood (n:=0) (by omega) (by omega) (Q.length-U.length)
 rw[show U.length+(Q.length-U.length)=Q.length by omega]at hfu
 rw[hfu]at hd
 unfold AO
 generalize DT U U.length [] 0=l at *
 obtain⟨hd1,hd2⟩:=hd
 have hll:l.length=o.length:=by
  have:=congrArg List.length hd1
  rw[List.length_map]at this
  exact this.symm
 have hlk:∀k,(hk:k<l.length)→l[k]=(k:Int):=fun k hk=>by
  have hc:=hd2 l[k] (List.getElem_mem hk)
  have h1:=(hmem l[k] hc.1 hc.2).2
  have h2:=(hmem (k:Int) (by omega) (by omega)).2
  have e:o.getD k 0=o.getD (l[k]).toNat 0:=by
   exact(congrArg (fun z:List Int=>z.getD k 0) hd1).trans (by simp[List.getD_eq_getElem?_getD,hk])
  rw[Int.toNat_natCast,e]at h2
  rw[←h1,h2]
 have hnd:l.Nodup:=by
  unfold List.Nodup
  rw[List.pairwise_iff_getElem]
  intro i j hi hj hij e
  rw[hlk i hi,hlk j hj]at e
  omega
 have hidx:∀x,0≤x→x<(l.length:Int)→Be l x=x:=fun x x0 x1=>by
  have:=GU hnd (i:=x.toNat) (by omega)
  have e:l.getD x.toNat 0=x:=by
   rw[List.getD_eq_getElem?_getD,List.getElem?_eq_getElem (by omega)]
   show l[x.toNat]=x
   rw[hlk _ (by omega)]
   omega
  rw[e]at this
  rw[this]
  omega
 apply List.ext_getElem
 ·rw[List.length_map];omega
 ·intro i h1 h2
  rw[List.getElem_map,hlk i (by simpa using h1)]
  have hU2:U.getD (i:Int).toNat (0,[])=U[i]:=by simp[List.getD_eq_getElem?_getD,h2]
  unfold DU
  rw[hU2]
  have:∀a∈U[i].2,I8 l a=a:=fun a ha=>by
   have hg:=(hUgood.2 _ (List.getElem_mem h2)).2 a ha
   unfold I8
   rw[hidx a.2 hg.1 (by omega)]
  rw[List.map_congr_left this,List.map_id']
theorem T8 {h:AM} {a X:List AE} (hro:RO a) {m m':Int→Int} (h1:MB h a X m) (h2:MB h a X m'):∀(k:Nat) (i:Int),i.toNat≤k→0≤i→i<(a.length:Int)→m i=m' i:=by
 intro k
 induction k with
 | zero =>
  intro i hk i0 i1
  have:i=0:=by omega
  subst this
  rw[h1.zero,h2.zero]
 | succ k ih =>
  intro i hk i0 i1
  by_cases hi:i=0
  ·subst hi;rw[h1.zero,h2.zero]
  ·obtain⟨j,j0,j1,x,hx,rfl⟩:=hro i (by omega) i1
   rw[←h1.arc j j0 (by omega) x hx,←h2.arc j j0 (by omega) x hx,ih j (by omega) j0 (by omega)]
theorem aP {h:AM} (hk:WB h) {a b c:List AE} (ga:AY a) (ta:D7 h a) (tb:D7 h b) (tc:D7 h c) {m m':Int→Int} (h1:MB h a b m) (h2:MB h b c m'):MB h a c fun i=>m' (m i):=by
 refine⟨by show m' (m 0)=0;rw[h1.zero,h2.zero],fun i i0 i1=>?_,fun i i0 i1=>?_,fun i i0 i1 x hx=>?_⟩
 ·have:=h1.rng i i0 i1
  exact h2.rng _ this.1 this.2
 ·have hr:=h1.rng i i0 i1
  have hr2:=h2.rng _ hr.1 hr.2
  have xa:=ta _ (AD a (0,[]) (k:=i.toNat) (by omega))
  have xb:=tb _ (AD b (0,[]) (k:=(m i).toNat) (by omega))
  have xc:=tc _ (AD c (0,[]) (k:=(m' (m i)).toNat) (by omega))
  exact Jv hk xa.1 xa.2 xb.1 xb.2 xc.1 xc.2 (h1.ty i i0 i1) (h2.ty _ hr.1 hr.2)
 ·have hr:=h1.rng i i0 i1
  have hxr:=BC ga hx
  have hm:=h1.arc i i0 i1 x hx
  obtain⟨y,hy,e1,e2⟩:=LO (l:=AR b (m i)) (e:=x.1) (by rw[hm];exact(h1.rng _ hxr.1 hxr.2).1)
  have:=h2.arc (m i) hr.1 hr.2 y hy
  rw[e1,e2,hm]at this
  exact this
theorem Ic {a:List AE} (hs:∀x∈a,KN x.2) (n:Int):KN (AR a n):=by
 unfold AR
 by_cases h:n.toNat<a.length
 ·exact hs _ (AD a (0,[]) h)
 ·rw[List.getD_eq_getElem?_getD,List.getElem?_eq_none (by omega)]
  exact .nil
theorem fE {h:AM} {a:List AE} (hs:∀x∈a,KN x.2):MB h a a id :=
 ⟨rfl,fun i i0 i1=>⟨i0,i1⟩,fun i _ _=>Ps h _,fun i _ _ x hx=>JD (Ic hs i) hx⟩
theorem oW:∀ {l m:List (Int×Int)},KN l→KN m→(∀x,x∈l↔x∈m)→l=m
 | [],[],_,_,_=>rfl
 | [],b :: m,_,_,h=>by have:=(h b).2 (by simp);cases this
 | a :: l,[],_,_,h=>by have:=(h a).1 (by simp);cases this
 | a :: l,b :: m,h1,h2,h=>by
  obtain⟨a1,a2⟩:=List.pairwise_cons.1 h1
  obtain⟨b1,b2⟩:=List.pairwise_cons.1 h2
  have e:a=b:=by
   rcases List.mem_cons.1 ((h a).1 (by simp)) with e|e
   ·exact e
   ·rcases List.mem_cons.1 ((h b).2 (by simp)) with e2|e2
    ·exact e2.symm
    ·have:=a1 b e2
     have:=b1 a e
     omega
  subst e
  refine congrArg _ (oW a2 b2 fun x=>⟨fun hx=>?_,fun hx=>?_⟩)
  ·rcases List.mem_cons.1 ((h x).1 (by simp[hx])) with e|e
   ·subst e
    have:=a1 x hx
    omega
   ·exact e
  ·rcases List.mem_cons.1 ((h x).2 (by simp[hx])) with e|e
   ·subst e
    have:=b1 x hx
    omega
   ·exact e
theorem A2Z {h:AM} (hu:HU h) {U V:List AE} (hU:VF h U) (hV:VF h V) {m m':Int→Int} (h1:MB h U V m) (h2:MB h V U m'):U=V:=by
 have key:∀ {U V:List AE},VF h U→VF h V→∀ {m m':Int→Int},MB h U V m→MB h V U m'→U.length≤V.length→U=V:=by
  clear hU hV h1 h2
  intro U V hU hV m m' h1 h2 hlen
  have c1:=aP hu.ok hU.good hU.ty hV.ty hU.ty h1 h2
  have c2:=aP hu.ok hV.good hV.ty hU.ty hV.ty h2 h1
  have e1:∀i,0≤i→i<(U.length:Int)→m' (m i)=i:=fun i i0 i1=>T8 hU.ro c1 (fE hU.str) i.toNat i (Nat.le_refl _) i0 i1
  have e2:∀i,0≤i→i<(V.length:Int)→m (m' i)=i:=fun i i0 i1=>T8 hV.ro c2 (fE hV.str) i.toNat i (Nat.le_refl _) i0 i1
  have hfw:∀ {A B:List AE} {f:Int→Int},AY A→MB h A B f→∀i,0≤i→i<(A.length:Int)→∀x∈AR A i,(x.1,f x.2)∈AR B (f i):=fun {A B f} gA hf i i0 i1 x hx=>by
   have hxr:=BC gA hx
   have hm:=hf.arc i i0 i1 x hx
   obtain⟨y,hy,g1,g2⟩:=LO (l:=AR B (f i)) (e:=x.1) (by rw[hm];exact(hf.rng _ hxr.1 hxr.2).1)
   rw[←g1,←hm,←g2]
   exact hy
  have hiso:Iso U V m (fun i=>0≤i∧i<(U.length:Int)):=by
   refine⟨fun i hi=>?_,fun i hi a ha=>BC hU.good ha,fun i j hi hj e=>?_⟩
   ·have hr:=h1.rng i hi.1 hi.2
    refine oW (Ic hV.str _) ?_ fun x=>⟨fun hx=>?_,fun hx=>?_⟩
    ·unfold KN
     rw[List.pairwise_map]
     exact Ic hU.str i
    ·have g:=hfw hV.good h2 (m i) hr.1 hr.2 x hx
     rw[e1 i hi.1 hi.2]at g
     refine List.mem_map.2 ⟨_,g,?_⟩
     have hxr:=BC hV.good hx
     show (x.1,m (m' x.2))=x
     rw[e2 x.2 hxr.1 hxr.2]
    ·obtain⟨y,hy,rfl⟩:=List.mem_map.1 hx
     exact hfw hU.good h1 i hi.1 hi.2 y hy
   ·rw[←e1 i hi.1 hi.2,←e1 j hj.1 hj.2,e]
  have hpos:=hU.pos
  have:=Ur hiso hU.good ⟨by omega,by omega⟩ h1.zero hU.pos hlen fun i hi=>by
   have hr:=h1.rng i hi.1 hi.2
   have g1:=h1.ty i hi.1 hi.2
   have g2:=h2.ty (m i) hr.1 hr.2
   rw[e1 i hi.1 hi.2]at g2
   have xa:=hU.ty _ (AD U (0,[]) (k:=i.toNat) (by omega))
   have xb:=hV.ty _ (AD V (0,[]) (k:=(m i).toNat) (by omega))
   exact hu.inj _ _ xb.1 xb.2 xa.1 xa.2 g2 g1
  rw[hV.can,hU.can]at this
  exact this.symm
 rcases Nat.le_total U.length V.length with hl|hl
 ·exact key hU hV h1 h2 hl
 ·exact(key hV hU h2 h1 hl).symm
structure Us (h:AM) (a b U:List AE):Prop where
 vf:VF h U
 left:∃m,MB h a U m
 right:∃m,MB h b U m
 least:∀X,D7 h X→∀m1,MB h a X m1→∀m2,MB h b X m2→∃m,MB h U X m
 len:U.length≤a.length+b.length
theorem A2l {h:AM} (hu:HU h) {a b U V:List AE} (h1:Us h a b U) (h2:Us h a b V):U=V:=by
 obtain⟨m1,g1⟩:=h2.left
 obtain⟨m2,g2⟩:=h2.right
 obtain⟨m3,g3⟩:=h1.left
 obtain⟨m4,g4⟩:=h1.right
 obtain⟨m,hm⟩:=h1.least V h2.vf.ty m1 g1 m2 g2
 obtain⟨m',hm'⟩:=h2.least U h1.vf.ty m3 g3 m4 g4
 exact A2Z hu h1.vf h2.vf hm hm'
open Classical in
noncomputable def BP (h:AM) (a b:List AE):List AE×Bool:=if H:∃U,Us h a b U then (H.choose,true) else ([],false)
theorem LU {h:AM} (hu:HU h) {a b U:List AE} (h1:Us h a b U):BP h a b=(U,true):=by
 unfold BP
 have H:∃U,Us h a b U:=⟨U,h1⟩
 rw[dif_pos H,A2l hu H.choose_spec h1]
theorem aQ {h:AM} {a b:List AE} (h1:∀X,D7 h X→∀m1,MB h a X m1→∀m2,¬MB h b X m2):BP h a b=([],false):=by
 unfold BP
 rw[dif_neg]
 rintro⟨U,hU⟩
 obtain⟨m1,g1⟩:=hU.left
 obtain⟨m2,g2⟩:=hU.right
 exact h1 U hU.vf.ty m1 g1 m2 g2
theorem Q5 {h:AM} {a b:List AE} (h1:(BP h a b).2=true):Us h a b (BP h a b).1:=by
 unfold BP at h1 ⊢
 split at h1
 ·rename_i H
  rw[dif_pos H]
  exact H.choose_spec
 ·cases h1
theorem UA {f:List AE} {e:Int} (h:e∈DN f):∃x∈f,∃a∈x.2,a.1=e:=by
 unfold DN at h
 obtain⟨x,hx,h2⟩:=List.mem_flatMap.1 h
 obtain⟨a,ha,e⟩:=List.mem_map.1 h2
 exact⟨x,hx,a,ha,e⟩
theorem x8 {h:AM} {N:List AE} {P:List (Int×Int)} {p ty:List Int} {ar:List (List (Int×Int))} (hj:JI h N P p ty ar []) (hQ:AY (quo p ty ar)) (hN:0<N.length) (hft:∀x∈N,∀a∈x.2,0≤a.1∧a.1<(h.2.length:Int)) {v:Int→Int} (hU:A2X h N P (AO (quo p ty ar) (DV p 0)) v):VF h (AO (quo p ty ar) (DV p 0)):=by
 have hr:0≤DV p 0∧DV p 0<((quo p ty ar).length:Int):=by
  obtain⟨rk,fo⟩:=hj.fo
  have:=hj.lp
  have:=Fi fo (x:=0) (by omega) (by omega) (NL fo (by omega) (by omega))
  rw[Dn]
  exact this
 refine⟨hU.good,hU.pos,hU.ty,hU.str,fun x hx a ha=>?_,x7 hQ hr.1 hr.2,hU.ro⟩
 obtain⟨y,hy,b,hb,e⟩:=UA (hU.feat x hx a ha)
 rw[←e]
 exact hft y hy b hb
theorem sM {h:AM} {f g:List AE} (hf:VF h f) (hg:VF h g):∀x∈AQ f g,∀a∈x.2,0≤a.1∧a.1<(h.2.length:Int):=by
 intro x hx
 unfold AQ at hx
 rcases List.mem_append.1 hx with hx|hx
 ·exact hf.ft x hx
 ·obtain⟨y,hy,rfl⟩:=List.mem_map.1 hx
  intro a ha
  obtain⟨b,hb,rfl⟩:=List.mem_map.1 ha
  exact hg.ft y hy b hb
theorem X7 {h:AM} {f g:List AE} (hf:VF h f) (hg:VF h g) {p ty:List Int} {ar:List (List (Int×Int))} (hj:JI h (AQ f g) [(0,(f.length:Int))] p ty ar []) (hQ:AY (quo p ty ar)):Us h f g (AO (quo p ty ar) (DV p 0)):=by
 have hpf:=hf.pos
 have hl:=BJ f g
 have hN:0<(AQ f g).length:=by omega
 have h0:=NP hj hQ hN
 have hlr:=He hj hQ hN (JE (g:=g) Py) hf.ro h0
 have hrr:=He hj hQ hN (Jz (f:=f)) hg.ro (T7 hj (by simp) h0)
 have hU:=x4 hj hQ hN fun x x0 x1=>by
  by_cases hx:x<(f.length:Int)
  ·have:=hlr x.toNat x (Nat.le_refl _) x0 hx
   rwa [show ((0:Nat):Int)+x=x by omega]at this
  ·have:=hrr _ (x-(f.length:Int)) (Nat.le_refl _) (by omega) (by omega)
   rwa [show (f.length:Int)+(x-(f.length:Int))=x by omega]at this
 refine⟨x8 hj hQ hN (sM hf hg) hU,⟨_,LS hU.proj (JE (g:=g) Py) hU.zero⟩,⟨_,LS hU.proj (Jz (f:=f)) (by rw[←hU.proj.eq (0,(f.length:Int)) (by simp)];exact hU.zero)⟩,fun X hX m1 h1 m2 h2=>?_,by have:=hU.len;omega⟩
 refine hU.least X _ hX (fC (Ox hf.good hg.good (Jy h1) (Jy h2)) fun q hq=>?_) ?_
 ·have e:q=(0,(f.length:Int)):=by simpa using hq
  subst e
  try simp only
  rw[if_pos (by omega),if_neg (by omega),Int.sub_self,h1.zero,h2.zero]
 ·show (if (0:Int)<(f.length:Int) then m1 0 else m2 (0-(f.length:Int)))=0
  rw[if_pos (by omega)]
  exact h1.zero
theorem Pz {h:AM} {f g:List AE} (hf:VF h f) (hg:VF h g) (hno:∀X v,D7 h X→¬X3 h (AQ f g) [(0,(f.length:Int))] X v):BP h f g=([],false):=by
 have hpf:=hf.pos
 refine aQ fun X hX m1 h1 m2 h2=>hno X _ hX (fC (Ox hf.good hg.good (Jy h1) (Jy h2)) fun q hq=>?_)
 have e:q=(0,(f.length:Int)):=by simpa using hq
 subst e
 try simp only
 rw[if_pos (by omega),if_neg (by omega),Int.sub_self,h1.zero,h2.zero]
end
/- Plain: the classes before they are joined. -/
section
theorem aR (l:List (Int×Int)):Ap 0 l=l:=by
 unfold Ap
 rw[List.map_congr_left (g:=id) (fun a _=>by show (a.1,a.2+((0:Nat):Int))=a;rw[Int.natCast_zero,Int.add_zero]),List.map_id]
theorem P0 (a b:Nat):BI 0 a++BI a b=BI 0 (a+b):=by
 unfold BI
 rw[List.range_add,List.map_append,List.map_map]
 congr 1
 ·refine List.map_congr_left fun i _=>?_
  show ((a+i:Nat):Int)=((0+(a+i):Nat):Int)
  rw[Nat.zero_add]
theorem sO {n k:Nat} (h:k<n):(BI 0 n).getD k 0=(k:Int):=by
 unfold BI
 rw[List.getD_eq_getElem?_getD,List.getElem?_map,List.getElem?_range h]
 show ((0+k:Nat):Int)=k
 rw[Nat.zero_add]
theorem LV {n:Nat} {x:Int} (x0:0≤x) (x1:x<(n:Int)):DH (BI 0 n) x=x:=by
 unfold DH
 rw[sO (by omega)]
 omega
def DP (N:List AE):List Int:=N.map (·.1)
def FH (N:List AE):List (List (Int×Int)):=N.map (·.2)
theorem NR (N:List AE) (k:Nat):(DP N).getD k 0=(N.getD k (0,[])).1:=by
 unfold DP
 rw[List.getD_eq_getElem?_getD,List.getElem?_map,List.getD_eq_getElem?_getD]
 cases N[k]?<;>rfl
theorem ME (N:List AE) (k:Nat):(FH N).getD k []=(N.getD k (0,[])).2:=by
 unfold FH
 rw[List.getD_eq_getElem?_getD,List.getElem?_map,List.getD_eq_getElem?_getD]
 cases N[k]?<;>rfl
theorem UB (f g:List AE):BZ f f.length++BZ g g.length=DP (AQ f g):=by
 unfold BZ DP AQ
 rw[List.take_length,List.take_length,List.map_append,List.map_map]
 rfl
theorem WU (f g:List AE):Cw 0 f f.length++Cw f.length g g.length=FH (AQ f g):=by
 unfold Cw FH AQ
 rw[List.take_length,List.take_length,List.map_append,List.map_map]
 congr 1
 exact List.map_congr_left fun x _=>aR x.2
theorem X8 {n:Nat} {x r:Int} (x0:0≤x) (x1:x<(n:Int)) (h:Rt (BI 0 n) x r):r=x:=h.det (.base (LV x0 x1))
theorem X9 {h:AM} {N:List AE} (hg:AY N) (ht:D7 h N) (hs:∀x∈N,KN x.2):JI h N [] (BI 0 N.length) (DP N) (FH N) []:=by
 have hl:(BI 0 N.length).length=N.length:=F9 0 N.length
 refine⟨ht,⟨fun _=>0,fun n n0 n1=>?_,fun n n0 n1 hn=>?_⟩,hl,by simp[DP],by simp[FH],fun w hw=>(by cases hw),fun x x0 x1=>?_,fun k a ha=>?_,fun k=>?_,fun q hq=>(by cases hq),fun x r x0 x1 hr=>?_,fun x r x0 x1 hr a ha=>?_,fun X v hX hv=>?_⟩
 ·rw[hl]at n1 ⊢
  rw[LV n0 n1]
  exact⟨n0,n1⟩
 ·rw[hl]at n1
  exact absurd (LV n0 n1) hn
 ·rw[NR]
  exact ht _ (AD N (0,[]) (by omega))
 ·rw[ME]at ha
  refine⟨GV hg k a ha,?_⟩
  by_cases hk:k<N.length
  ·exact List.mem_flatMap.2 ⟨_,AD N (0,[]) hk,List.mem_map.2 ⟨a,ha,rfl⟩⟩
  ·rw[List.getD_eq_getElem?_getD,List.getElem?_eq_none (by omega)]at ha
   cases ha
 ·rw[ME]
  have:=Ic hs (k:Int)
  rwa [AR,Int.toNat_natCast]at this
 ·rw[X8 x0 x1 hr,NR]
  exact Ps h _
 ·rw[X8 x0 x1 hr,ME]
  have hr2:=BC hg ha
  exact⟨a.2,ha,.cls hr2.1 hr2.2 hr2.1 hr2.2 (.base (LV hr2.1 hr2.2)) (.base (LV hr2.1 hr2.2))⟩
 ·refine⟨fun x r x0 x1 hr=>by rw[X8 x0 x1 hr],fun w hw=>(by cases hw),fun r r0 r1 _=>?_,fun r r0 r1 _ a ha=>?_⟩
  ·rw[NR]
   exact hv.ty r r0 r1
  ·rw[ME]at ha
   exact hv.arc r r0 r1 a ha
theorem DF {f g:List AE} (hf:AY f) (hg:AY g) (hl:f.length+g.length≤100000):AY (AQ f g):=by
 have hj:=BJ f g
 refine⟨by omega,fun x hx=>?_⟩
 unfold AQ at hx
 rcases List.mem_append.1 hx with hx|hx
 ·refine⟨(hf.2 x hx).1,fun a ha=>?_⟩
  have:=(hf.2 x hx).2 a ha
  omega
 ·obtain⟨y,hy,rfl⟩:=List.mem_map.1 hx
  refine⟨by simp only[Ap,List.length_map];exact(hg.2 y hy).1,fun a ha=>?_⟩
  obtain⟨b,hb,rfl⟩:=List.mem_map.1 ha
  have:=(hg.2 y hy).2 b hb
  simp only
  omega
theorem Dx {f g:List AE} (hf:∀x∈f,KN x.2) (hg:∀x∈g,KN x.2):∀x∈AQ f g,KN x.2:=by
 intro x hx
 unfold AQ at hx
 rcases List.mem_append.1 hx with hx|hx
 ·exact hf x hx
 ·obtain⟨y,hy,rfl⟩:=List.mem_map.1 hx
  unfold KN Ap
  rw[List.pairwise_map]
  exact hg y hy
theorem GW {h:AM} {f g:List AE} (hf:D7 h f) (hg:D7 h g):D7 h (AQ f g):=by
 intro x hx
 unfold AQ at hx
 rcases List.mem_append.1 hx with hx|hx
 ·exact hf x hx
 ·obtain⟨y,hy,rfl⟩:=List.mem_map.1 hx
  exact hg y hy
def Ut (N:List AE):Prop:=∀x∈N,∀a∈x.2,0≤a.1∧a.1<64
theorem GX {f g:List AE} (hf:Ut f) (hg:Ut g):Ut (AQ f g):=by
 intro x hx
 unfold AQ at hx
 rcases List.mem_append.1 hx with hx|hx
 ·exact hf x hx
 ·obtain⟨y,hy,rfl⟩:=List.mem_map.1 hx
  intro a ha
  obtain⟨b,hb,rfl⟩:=List.mem_map.1 ha
  exact hg y hy b hb
theorem P6 {l:List (Int×Int)} (h:KN l) (hf:∀a∈l,0≤a.1∧a.1<64):l.length≤64:=by
 have:=oQ h (S:=(List.range 64).map fun(i:Nat)=>(i:Int)) (fun a ha=>List.mem_map.2 ⟨a.1.toNat,List.mem_range.2 (by have:=hf a ha;omega),by have:=hf a ha;omega⟩)
 rwa [List.length_map,List.length_range]at this
theorem UC {N:List AE} (h:∀x∈N,x.2.length≤64):(DN N).length≤64*N.length:=by
 induction N with
 | nil=>simp[DN]
 | cons x N ih =>
  have h1:=h x (by simp)
  have h2:=ih fun y hy=>h y (by simp[hy])
  have e:DN (x :: N)=x.2.map (·.1)++DN N:=rfl
  rw[e,List.length_append,List.length_map,List.length_cons]
  omega
theorem sP {N:List AE} (h:Ut N) {e:Int} (he:e∈DN N):0≤e∧e<64:=by
 obtain⟨x,hx,a,ha,rfl⟩:=UA he
 exact h x hx a ha
theorem LW {h:AM} {N:List AE} {P:List (Int×Int)} {p ty:List Int} {ar:List (List (Int×Int))} (hj:JI h N P p ty ar []) (hN:N.length≤100000) (hf:Ut N):AY (quo p ty ar):=by
 have hl:=Dn p ty ar
 obtain⟨rk,fo⟩:=hj.fo
 have lp:=hj.lp
 refine⟨by omega,fun x hx=>?_⟩
 obtain⟨i,hi,rfl⟩:=Cu (0,[]) hx
 have e:=Jw (p:=p) (ty:=ty) (ar:=ar) (n:=(i:Int)) (by omega) (by omega)
 rw[Int.toNat_natCast]at e
 rw[e]
 refine⟨?_,fun a ha=>?_⟩
 ·simp only[List.length_map]
  have:=P6 (hj.srt i) (fun a ha=>sP hf (hj.arr i a ha).2)
  omega
 ·obtain⟨b,hb,rfl⟩:=List.mem_map.1 ha
  have hr:=(hj.arr i b hb).1
  have:=Fi fo (x:=b.2) hr.1 (by omega) (NL fo hr.1 (by omega))
  rw[hl]
  exact this
theorem VF.ft64 {h:AM} {f:List AE} (hv:VF h f) (hu:HU h):Ut f:=fun x hx a ha=>by
 have h1:=hv.ft x hx a ha
 have h2:=hu.ft
 omega
end
/- Plain: type 0 subsumes each type. -/
section
/-! All declared types are below the root -/
def A73 (d:List AK) (o:List ByteArray) (i:Nat):Prop:=∀j,j<i→∀x∈d,Ad x.2.1 (o.getD j ByteArray.empty)=true→Ad o x.1=true
theorem x9 {c:ByteArray} {o:List ByteArray} {x:AK} (h:Ad x.2.1 c=true):Ad (FK c o x) x.1=true:=by
 unfold FK
 split
 ·rw[M4,E1,Bool.or_true]
 ·rename_i hc
  rw[h,Bool.true_and,Bool.not_eq_true']at hc
  simpa using hc
theorem WV {c:ByteArray} {x:AK} (h:Ad x.2.1 c=true):∀ {l:List AK} {o:List ByteArray},x∈l→Ad (l.foldl (FK c) o) x.1=true
 | [],_,hx=>by cases hx
 | y :: l,o,hx=>by
  rw[List.foldl_cons]
  rcases List.mem_cons.1 hx with rfl|hx
  ·exact L6 (fun z hz=>L4 hz) (x9 h)
  ·exact WV h hx
theorem aU {d:List AK}:∀ {n i:Nat} {o:List ByteArray},YX d o→d.length≤n+i→A73 d o i→i≤o.length→∃m,A73 d (De d n i o) m∧(De d n i o).length≤m
 | 0,i,o,ha,hd,hb,hi=>⟨i,hb,by
  have:=ha.len
  show o.length≤i
  omega⟩
 | n+1,i,o,ha,hd,hb,hi=>by
  unfold De
  split
  ·rename_i hlt
   obtain⟨g1,g2⟩:=S5 (o.getD i ByteArray.empty) (l:=d) (o:=o) (fun _ h=>h) ha
   refine aU g1 (by omega) (fun j hj x hx hs=>?_) (by omega)
   rw[Pa _ (by omega)]at hs
   by_cases e:j=i
   ·subst e
    exact WV hs hx
   ·exact L6 (fun z hz=>L4 hz) (hb j (by omega) x hx hs)
  ·exact⟨i,hb,by omega⟩
theorem QA {α:Type} {p:α→Bool}:∀ {l:List α},l.countP p=1→∀x∈l,p x=true→∀y∈l,p y=true→x=y
 | [],h,x,hx,_,_,_,_=>by cases hx
 | z :: l,h,x,hx,px,y,hy,py=>by
  rw[List.countP_cons]at h
  by_cases pz:p z=true
  ·rw[if_pos pz]at h
   have h0:l.countP p=0:=by omega
   rw[List.countP_eq_zero]at h0
   have e1:x=z:=by
    rcases List.mem_cons.1 hx with e|hx
    ·exact e
    ·exact absurd px (h0 x hx)
   have e2:y=z:=by
    rcases List.mem_cons.1 hy with e|hy
    ·exact e
    ·exact absurd py (h0 y hy)
   rw[e1,e2]
  ·rw[if_neg pz]at h
   have hx:x∈l:=by
    rcases List.mem_cons.1 hx with e|hx
    ·rw[e]at px;exact absurd px pz
    ·exact hx
   have hy:y∈l:=by
    rcases List.mem_cons.1 hy with e|hy
    ·rw[e]at py;exact absurd py pz
    ·exact hy
   exact QA (by omega) x hx px y hy py
theorem UD (s:ByteArray):∀(l:List AK) (k:Nat),0≤Cd s k l→∃x∈l,Ar x.1 s=true
 | [],k,h=>by
  simp only[Cd]at h
  omega
 | y :: l,k,h=>by
  simp only[Cd]at h
  split at h
  ·rename_i e
   exact⟨y,by simp,e⟩
  ·obtain⟨x,hx,e⟩:=UD s l (k+1) h
   exact⟨x,by simp[hx],e⟩
theorem fF {d:List AK} (h3:BK d=0):∃r∈d,∀x∈d,Ad (Df d r.1) x.1=true:=by
 obtain⟨hs,h2,h1,hn,hl⟩:=A7 h3
 have hpos:0<d.countP fun x=>x.2.1.length==0:=by
  have:HT d=d.countP fun x=>x.2.1.length==0:=rfl
  omega
 obtain⟨r,hr,pr⟩:=List.countP_pos_iff.1 hpos
 refine⟨r,hr,?_⟩
 have hrd:=E3 hr
 have hA:YX d [r.1]:=⟨fun s hs=>by
  have:s=r.1:=by simpa using hs
  rw[this]
  exact hrd,by simp⟩
 obtain⟨m,hm1,hm2⟩:=aU (d:=d) (n:=d.length) (i:=0) hA (by omega) (fun j hj=>by omega) (by omega)
 have hsub:r.1∈De d d.length 0 [r.1]:=NC (by simp)
 have hb:Df d r.1=Kz (De d d.length 0 [r.1]):=by unfold Df;rw[if_neg (by omega)]
 rw[hb]
 generalize De d d.length 0 [r.1]=o at *
 have key:∀(k:Nat) (x:AK),x∈d→HX d x.1≤k→Ad o x.1=true:=by
  intro k
  induction k with
  | zero =>
   intro x hx hk
   by_cases hc:x.2.1.length=0
   ·have e:=QA h1 x hx (by simpa using hc) r hr pr
    rw[e]
    exact L5 hsub
   ·obtain⟨s,hs2⟩:∃s,s∈x.2.1:=List.exists_mem_of_length_pos (by omega)
    have:=NB hn hl hx (L5 hs2)
    omega
  | succ k ih =>
   intro x hx hk
   by_cases hc:x.2.1.length=0
   ·have e:=QA h1 x hx (by simpa using hc) r hr pr
    rw[e]
    exact L5 hsub
   ·obtain⟨s,hs2⟩:∃s,s∈x.2.1:=List.exists_mem_of_length_pos (by omega)
    have hrk:=NB hn hl hx (L5 hs2)
    obtain⟨y,hy,e⟩:=UD s d 0 (hs x hx s hs2)
    rw[←NA d e]at hrk
    obtain⟨z,hz,e2⟩:=List.any_eq_true.1 (ih y hy (by omega))
    obtain⟨j,hj,rfl⟩:=Cu ByteArray.empty hz
    refine hm1 j (by omega) x hx ?_
    exact List.any_eq_true.2 ⟨s,hs2,E2 (CA e2 e)⟩
 intro x hx
 obtain⟨z,hz,e⟩:=List.any_eq_true.1 (key _ x hx (Nat.le_refl _))
 obtain⟨w,hw,e2⟩:=List.any_eq_true.1 (TD (o:=[]) hz)
 exact List.any_eq_true.2 ⟨w,hw,CA e2 e⟩
/-! The greatest code comes first -/
abbrev yA (c:List Int):Nat:=(HP c).length
theorem yB {w:Int} (hw:wP w) {r:Nat} (hr:r<64):wB w (r:Int)=w.toNat.testBit r:=by
 have h0:=hw.1
 have h1:=hw.2
 have hle:w.toNat / 2 ^ r≤w.toNat:=Nat.div_le_self _ _
 have e:YZ .u64 w (r:Int)=((w.toNat / 2 ^ r:Nat):Int):=by
  unfold YZ
  have hm:min ((r:Int)).toNat IntKind.u64.bits=r:=by
   show min ((r:Int)).toNat 64=r
   omega
  have hp:(0:Int)≤2 ^ r:=Int.le_of_lt (Int.pow_pos (by decide))
  rw[hm,Int.fdiv_eq_ediv_of_nonneg _ hp,Int.natCast_ediv,Int.toNat_of_nonneg h0]
  simp
 unfold wB
 rw[Nat.testBit_eq_decide_div_mod_eq,e]
 generalize w.toNat / 2 ^ r=z at *
 rw[HW ⟨by omega,by omega⟩ ⟨by decide,by decide⟩,Int.toNat_natCast,show (1:Int).toNat=1 from rfl,Nat.and_one_is_mod,Bool.eq_iff_iff,beq_iff_eq,decide_eq_true_eq]
 omega
theorem oX {b:List Int} (hw:H8 b) (i:Nat):Sz b (i:Int)=BR b i:=by
 have e1:Int.tdiv (i:Int) 64=((i / 64:Nat):Int):=by rw[Int.tdiv_eq_ediv_of_nonneg (by omega)];omega
 have e2:Int.tmod (i:Int) 64=((i % 64:Nat):Int):=by rw[Int.tmod_eq_emod_of_nonneg (by omega)];omega
 unfold Sz BR
 rw[e1,e2,Int.toNat_natCast]
 by_cases hk:i / 64<b.length
 ·rw[if_neg (by rw[Bool.or_eq_true,decide_eq_true_eq,decide_eq_true_eq];omega),yB (A8 hw _) (by omega)]
 ·rw[if_pos (by rw[Bool.or_eq_true,decide_eq_true_eq,decide_eq_true_eq];omega),GR hk]
  simp
theorem aV (c:List Int):(HP c).Nodup:=by
 unfold HP Me List.Nodup
 rw[List.pairwise_map]
 refine List.Pairwise.imp (fun h e=>h ?_) (List.Pairwise.filter _ List.nodup_range)
 exact Int.ofNat.inj e
theorem MF {c:List Int} (hw:H8 c) {x:Int}:x∈HP c↔∃i:Nat,x=(i:Int)∧BR c i=true:=by
 unfold HP Me
 rw[List.mem_map]
 constructor
 ·rintro⟨i,hi,rfl⟩
  rw[List.mem_filter]at hi
  exact⟨i,rfl,by rw[←oX hw];exact hi.2⟩
 ·rintro⟨i,rfl,hb⟩
  refine⟨i,List.mem_filter.2 ⟨List.mem_range.2 ?_,by rw[oX hw];exact hb⟩,rfl⟩
  refine Classical.byContradiction fun hc=>?_
  unfold BR at hb
  rw[GR (by omega)]at hb
  simp at hb
theorem A3N {a b:List Int} (ha:H8 a) (hb:H8 b) (h:∀i,BR a i=true→BR b i=true) (hc:yA b≤yA a) (i:Nat) (hi:BR b i=true):BR a i=true:=by
 refine Classical.byContradiction fun hn=>?_
 have hx:(i:Int)∉HP a:=fun hm=>by
  obtain⟨j,e,hj⟩:=(MF ha).1 hm
  have:i=j:=Int.ofNat.inj e
  rw[this]at hn
  exact hn hj
 have:=Pv (l:=(i:Int) :: HP a) (l':=HP b) (List.nodup_cons.2 ⟨hx,aV a⟩) fun x hx=>by
  rcases List.mem_cons.1 hx with rfl|hx
  ·exact(MF hb).2 ⟨i,rfl,hi⟩
  ·obtain⟨j,rfl,hj⟩:=(MF ha).1 hx
   exact(MF hb).2 ⟨j,rfl,h j hj⟩
 rw[List.length_cons]at this
 unfold yA at hc
 omega
theorem UE (x:AW) (out:List AW):∀n,(FF x out n=0→n=0∨Fd x (out.getD 0 c0)=true)∧∀k,FF x out n=k+1→Fd x (out.getD k c0)=false
 | 0=>⟨fun _=>.inl rfl,fun k h=>by simp[FF]at h⟩
 | n+1=>by
  obtain⟨h1,h2⟩:=UE x out n
  unfold FF
  split
  ·rename_i hb
   refine⟨fun e=>?_,h2⟩
   rcases h1 e with e|e
   ·subst e
    exact .inr hb
   ·exact .inr e
  ·rename_i hb
   refine⟨fun e=>by omega,fun k e=>?_⟩
   have:n=k:=by omega
   subst this
   simpa using hb
theorem aW {a b:AW} (h:Fd a b=true):yA b.2≤yA a.2:=by
 unfold Fd at h
 rw[Bool.or_eq_true,Bool.and_eq_true,decide_eq_true_eq,beq_iff_eq]at h
 unfold yA
 omega
theorem YA {a b:AW} (h:Fd a b=false):yA a.2≤yA b.2:=by
 unfold Fd at h
 rw[Bool.or_eq_false_iff,decide_eq_false_iff_not]at h
 unfold yA
 omega
def HM (out:List AW):Prop:=∀y∈out,yA y.2≤yA (out.getD 0 c0).2
theorem A2m {out:List AW} (h:HM out) (x:AW):HM (Xf out x):=by
 obtain⟨s1,s2⟩:=UE x out out.length
 have hle:=Zo x out out.length
 intro y hy
 rw[Zs]at hy
 unfold Xf
 cases hk:FF x out out.length with
 | zero =>
  rw[List.take_zero,List.drop_zero,List.nil_append]
  have e:([x]++out).getD 0 c0=x:=rfl
  rw[e]
  rcases hy with rfl|hy
  ·exact Nat.le_refl _
  ·have h1:=h y hy
   rcases s1 hk with e|e
   ·rw[List.eq_nil_of_length_eq_zero e]at hy
    cases hy
   ·exact Nat.le_trans h1 (aW e)
 | succ k =>
  have hb:=YA (s2 k hk)
  rw[hk]at hle
  have e:(out.take (k+1)++[x]++out.drop (k+1)).getD 0 c0=out.getD 0 c0:=by
   cases out with
   | nil=>simp at hle
   | cons z out=>rfl
  rw[e]
  rcases hy with rfl|hy
  ·exact Nat.le_trans hb (h _ (DM (by omega)))
  ·exact h y hy
theorem aX {d:List AK}:∀ {l:List (List Int)} {o:List AW},HM o→HM (l.foldl (Pg d) o)
 | [],_,h=>h
 | b :: l,o,h=>by
  rw[List.foldl_cons]
  exact aX (A2m h _)
/-! Codes hold no other numbers than those of the declared types -/
def In (n:Nat) (c:List Int):Prop:=H8 c∧∀i,BR c i=true→i<n
theorem A3O (n:Nat):In n []:=⟨fun x hx=>(by cases hx),fun i hi=>by unfold BR at hi;simp at hi⟩
theorem A3P {n:Nat} {a b:List Int} (ha:In n a) (hb:In n b):In n (Fb a b) :=
 ⟨Xj ha.1 hb.1,fun i hi=>by
  rw[Ro ha.1 hb.1,Bool.and_eq_true]at hi
  exact ha.2 i hi.1⟩
theorem oY {n:Nat} {l:List (List Int)} (h:∀c∈l,In n c) (k:Nat):In n (l.getD k []):=by
 by_cases hk:k<l.length
 ·exact h _ (DM hk)
 ·rw[WA hk]
  exact A3O n
theorem A2n {n:Nat} {l:List (List Int)} (h:∀c∈l,In n c) (i k:Nat):∀c∈Gd l i k,In n c:=by
 intro c hc
 unfold Gd at hc
 split at hc
 ·rcases List.mem_append.1 hc with hc|hc
  ·exact h c hc
  ·have:c=Fb (l.getD i []) (l.getD k []):=by simpa using hc
   rw[this]
   exact A3P (oY h i) (oY h k)
 ·exact h c hc
theorem oZ {q i:Nat}:∀ {n k:Nat} {l:List (List Int)},(∀c∈l,In q c)→∀c∈Ge i n k l,In q c
 | 0,_,_,h=>h
 | n+1,k,l,h=>by
  unfold Ge
  split
  ·exact oZ (A2n h i k)
  ·exact h
theorem o4 {q:Nat}:∀ {n i:Nat} {l:List (List Int)},(∀c∈l,In q c)→∀c∈IW n i l,In q c
 | 0,_,_,h=>h
 | n+1,i,l,h=>by
  unfold IW
  split
  ·exact o4 (oZ h)
  ·exact h
def NS (h:AM):Prop:=∀t,0≤t→t<(h.1.length:Int)→CH h 0 t=true
theorem Q6 (d:List AK):NS (AZ d).1:=by
 have hk:=H9 d
 unfold AZ at hk ⊢
 split
 ·intro t h0 h1
  simp at h1
  omega
 ·rename_i hv
  rw[if_neg hv]at hk
  have hv:(BO d).2=0:=Classical.byContradiction hv
  have h5:BN d=0:=by
   unfold BO at hv
   split at hv
   ·rename_i h;exact absurd hv h
   ·rename_i h;exact Classical.byContradiction h
  obtain⟨hz,-,-⟩:=CT h5
  obtain⟨h3,hlen,-⟩:=Bc hz
  obtain⟨-,h2,-,hn,hl⟩:=A7 h3
  have hnl:=E0 d d.length
  rw[List.take_length]at hnl
  have hal:(AX d).length≤4096:=by omega
  obtain⟨r,hr,hbel⟩:=fF h3
  have hin:∀c∈A1 (Ah d),In (AX d).length c:=o4 fun c hc=>by
   obtain⟨s,hs,rfl⟩:=List.mem_map.1 hc
   exact⟨(EM (d:=d) hal s 0).2.1,fun i hi=>((EM (d:=d) hal s i).1.1 hi).1⟩
  obtain⟨s,hs,es⟩:=List.any_eq_true.1 (TF hr)
  have hsr:s=r.1:=by
   obtain⟨x,hx,rfl⟩:=F6 hs
   rw[Zj hn hx hr es]
  subst hsr
  have hc0:Gj d (AX d) r.1∈A1 (Ah d):=by
   have hp:Ah d <+: A1 (Ah d):=TQ 257 0 (Ah d)
   exact hp.subset (List.mem_map.2 ⟨_,hs,rfl⟩)
  have hall:∀i,i<(AX d).length→BR (Gj d (AX d) r.1) i=true:=fun i hi=>by
   refine(EM (d:=d) hal r.1 i).1.2 ⟨hi,?_⟩
   obtain⟨x,hx,e⟩:=F6 (DM (d:=ByteArray.empty) hi)
   rw[←e]
   exact hbel x hx
  have hHM:HM (A0 d):=aX fun y hy=>by cases hy
  have hmem0:=Dh.2 ⟨_,hc0,rfl⟩
  have hpos:0<(A0 d).length:=List.length_pos_of_mem hmem0
  have hmax:=hHM _ hmem0
  obtain⟨b,hb,eb⟩:=Dh.1 (DM (d:=c0) hpos)
  rw[eb]at hmax
  have hfull:=A3N (hin b hb).1 (hin _ hc0).1 (fun i hi=>hall i ((hin b hb).2 i hi)) hmax
  have hcode:BM (GS d) 0=b:=by
   show ((Es (A0 d) _ _).getD 0 Vz).2.1=b
   have:(Es (A0 d) (BO d).1 (A0 d).length).getD 0 Vz=(((A0 d).getD 0 c0).1,((A0 d).getD 0 c0).2,Zv (A0 d) ((0:Nat):Int),(BO d).1.getD 0 []):=by
    unfold Es
    rw[List.getD_eq_getElem?_getD,List.getElem?_map,List.getElem?_range hpos]
    rfl
   rw[this,eb]
  have hlenT:(GS d).1.length=(A0 d).length:=MA _ _ _
  intro t t0 t1
  refine(CM hk (by omega) (by show (0:Int)<((GS d).1.length:Int);omega) t0 t1).2 fun i hi=>?_
  show BR (BM (GS d) 0) i=true
  rw[hcode]
  refine hfull i (hall i ?_)
  have hcm:=CC t0 t1
  have hmem:BM (GS d) t∈A1 (Ah d):=by
   have e:((GS d).1.map fun t=>t.2.1)=(A0 d).map fun x=>x.2:=by
    show ((Es _ _ _).map fun t=>t.2.1)=_
    unfold Es
    rw[List.map_map]
    apply List.ext_getElem
    ·simp
    ·intro i h1 h2
     simp[List.getD_eq_getElem?_getD,show i<(A0 d).length by simpa using h1]
   have hcm2:BM (GS d) t∈(GS d).1.map fun t=>t.2.1:=hcm
   rw[e]at hcm2
   obtain⟨x,hx,ex⟩:=List.mem_map.1 hcm2
   obtain⟨c,hc,rfl⟩:=Dh.1 hx
   rw[←ex]
   exact hc
  exact(hin _ hmem).2 i hi
end
/- Plain: a path as a tree; the most general structure with one value at two paths. -/
section
def D8 (p:List Int) (n:Nat):List AE:=(List.range n).map fun(i:Nat)=>((0:Int),[(p.getD i 0,(i:Int)+1)])
def B0 (p:List Int) (g:List AE):List AE:=D8 p p.length++g.map fun x=>(x.1,Ap p.length x.2)
abbrev CU (p:List Int):List AE:=B0 p [((0:Int),[])]
theorem Q7 (p:List Int) (n:Nat):D8 p (n+1)=D8 p n++[((0:Int),[(p.getD n 0,(n:Int)+1)])]:=by simp[D8,List.range_succ]
theorem DG (p:List Int) (n:Nat):(D8 p n).length=n:=by simp[D8]
theorem B1 (p:List Int):(CU p).length=p.length+1:=by simp[B0,D8]
theorem UF (p:List Int) {i:Int} (i0:0≤i) (i1:i<(p.length:Int)):(CU p).getD i.toNat (0,[])=(0,[(p.getD i.toNat 0,i+1)]):=by
 unfold CU B0
 rw[List.getD_eq_getElem?_getD,List.getElem?_append_left (by rw[DG];omega)]
 unfold D8
 rw[List.getElem?_map,List.getElem?_range (by omega)]
 show ((0:Int),[(p.getD i.toNat 0,((i.toNat:Nat):Int)+1)])=_
 rw[Int.toNat_of_nonneg i0]
theorem fG (p:List Int):(CU p).getD p.length (0,[])=(0,[]):=by
 unfold CU B0
 rw[List.getD_eq_getElem?_getD,List.getElem?_append_right (by rw[DG];omega),DG,Nat.sub_self]
 rfl
theorem NT (p:List Int) {i:Int} (i0:0≤i) (i1:i<((CU p).length:Int)):(i<(p.length:Int)∧(CU p).getD i.toNat (0,[])=(0,[(p.getD i.toNat 0,i+1)]))∨(i=(p.length:Int)∧(CU p).getD i.toNat (0,[])=(0,[])):=by
 rw[B1]at i1
 by_cases h:i<(p.length:Int)
 ·exact .inl ⟨h,UF p i0 h⟩
 ·have e:i=(p.length:Int):=by omega
  subst e
  right
  rw[Int.toNat_natCast]
  exact⟨rfl,fG p⟩
theorem MG (p:List Int) {x:AE} (hx:x∈CU p):x=(0,[])∨∃i,i<p.length∧x=(0,[(p.getD i 0,(i:Int)+1)]):=by
 obtain⟨i,hi,rfl⟩:=Cu (0,[]) hx
 rcases NT p (i:=(i:Int)) (by omega) (by omega) with ⟨h1,h2⟩|⟨h1,h2⟩
 ·rw[Int.toNat_natCast]at h2
  exact .inr ⟨i,by omega,h2⟩
 ·rw[Int.toNat_natCast]at h2
  exact .inl h2
def Uu (h:AM) (p:List Int):Prop:=∀e∈p,0≤e∧e<(h.2.length:Int)
theorem JF {h:AM} {p:List Int} (hp:Uu h p):∀x∈CU p,∀a∈x.2,0≤a.1∧a.1<(h.2.length:Int):=by
 intro x hx a ha
 rcases MG p hx with rfl|⟨i,hi,rfl⟩
 ·cases ha
 ·have:a=(p.getD i 0,(i:Int)+1):=by simpa using ha
  rw[this]
  exact hp _ (DM hi)
theorem E5 {p:List Int} (hp:p.length≤1000):AY (CU p):=by
 have hl:=B1 p
 refine⟨by omega,fun x hx=>?_⟩
 rcases MG p hx with rfl|⟨i,hi,rfl⟩
 ·exact⟨by simp,fun a ha=>by cases ha⟩
 ·refine⟨by simp,fun a ha=>?_⟩
  have:a=(p.getD i 0,(i:Int)+1):=by simpa using ha
  rw[this,hl]
  simp only
  omega
theorem MI (p:List Int):∀x∈CU p,KN x.2:=by
 intro x hx
 rcases MG p hx with rfl|⟨i,hi,rfl⟩
 ·exact .nil
 ·exact List.pairwise_singleton _ _
theorem Oy {h:AM} (h0:0<h.1.length) (p:List Int):D7 h (CU p):=by
 intro x hx
 rcases MG p hx with rfl|⟨i,hi,rfl⟩
 ·exact⟨by simp,by simp only;omega⟩
 ·exact⟨by simp,by simp only;omega⟩
theorem aY (p:List Int):RO (CU p):=by
 intro i i0 i1
 rw[B1]at i1
 refine⟨i-1,by omega,by omega,(p.getD (i-1).toNat 0,i-1+1),?_,by simp only;omega⟩
 rw[AR,UF p (by omega) (by omega)]
 exact List.mem_singleton.2 rfl
theorem yC {l:List (Int×Int)} (h:KN l) {e:Int} (he:0≤DI l e):cB l e=DI l e:=by
 obtain⟨a,ha,e1,e2⟩:=LO he
 rw[←e1,oK h ha,JD h ha]
theorem yD {f:List AE} (hf:AY f) (h0:0<f.length) (p:List Int):∀n,Bn f 0 p=some n→0≤n∧n<(f.length:Int):=by
 induction p using IZ with
 | h0 =>
  intro n h
  simp only[Bn,Option.some.injEq]at h
  omega
 | h1 p e ih =>
  intro n h
  obtain⟨x,hx,a,ha,e1,e2⟩:=WN h
  rw[←e2]
  exact BC hf ha
theorem yE {f:List AE} {p:List Int} {n:Int} (h:Bn f 0 p=some n) (k:Nat):∃m,Bn f 0 (p.take k)=some m:=by
 cases hh:Bn f 0 (p.take k) with
 | none =>
  have:=Pr (p.take k) 0 (p.drop k) hh
  rw[List.take_append_drop,h]at this
  cases this
 | some m=>exact⟨m,rfl⟩
theorem aZ {h:AM} (ht:NS h) {X:List AE} (hX:AY X) (x0:0<X.length) (tX:D7 h X) (sX:∀x∈X,KN x.2) {p:List Int} {n:Int} (hw:Bn X 0 p=some n):∃m,MB h (CU p) X m∧m (p.length:Int)=n:=by
 have hw1:∀k,Bn X 0 (p.take k)=some ((Bn X 0 (p.take k)).getD 0):=fun k=>by
  obtain⟨m,hm⟩:=yE hw k
  rw[hm]
  rfl
 have hr:=fun k=>yD hX x0 (p.take k) _ (hw1 k)
 refine⟨fun i=>(Bn X 0 (p.take i.toNat)).getD 0,⟨rfl,fun i i0 i1=>hr i.toNat,fun i i0 i1=>?_,fun i i0 i1 a ha=>?_⟩,?_⟩
 ·have e:((CU p).getD i.toNat (0,[])).1=0:=by
   rcases NT p i0 i1 with ⟨-,h2⟩|⟨-,h2⟩<;>rw[h2]
  rw[e]
  have hq:=hr i.toNat
  have:=tX _ (AD X (0,[]) (k:=((Bn X 0 (p.take i.toNat)).getD 0).toNat) (by omega))
  exact ht _ this.1 this.2
 ·rcases NT p i0 i1 with ⟨h1,h2⟩|⟨-,h2⟩
  ·rw[AR,h2]at ha
   have e:a=(p.getD i.toNat 0,i+1):=by simpa using ha
   subst e
   have hs:=Ac p 0 (k:=i.toNat) (by omega)
   have hw2:=hw1 (i.toNat+1)
   rw[hs]at hw2
   obtain⟨x,hx,b,hb,e1,e2⟩:=WN hw2
   have hx2:=hw1 i.toNat
   rw[hx]at hx2
   have hx3:x=(Bn X 0 (p.take i.toNat)).getD 0:=by rw[hx];rfl
   show DI (AR X ((Bn X 0 (p.take i.toNat)).getD 0)) (p.getD i.toNat 0)=(Bn X 0 (p.take (i+1).toNat)).getD 0
   rw[←hx3,show (i+1).toNat=i.toNat+1 by omega,hs,←e2,←e1]
   exact JD (Ic sX x) hb
  ·rw[AR,h2]at ha
   cases ha
 ·show (Bn X 0 (p.take ((p.length:Nat):Int).toNat)).getD 0=n
  rw[Int.toNat_natCast,List.take_length,hw]
  rfl
theorem a9 {h:AM} {X:List AE} (hX:AY X) (x0:0<X.length) (sX:∀x∈X,KN x.2) {p:List Int} {m:Int→Int} (hm:MB h (CU p) X m):Bn X 0 p=some (m (p.length:Int)):=by
 have key:∀k,k≤p.length→Bn X 0 (p.take k)=some (m (k:Int)):=by
  intro k
  induction k with
  | zero =>
   intro _
   rw[List.take_zero]
   show some (0:Int)=some (m 0)
   rw[hm.zero]
  | succ k ih =>
   intro hk
   have hi:=ih (by omega)
   have hn:=UF p (i:=(k:Int)) (by omega) (by omega)
   have hl:=B1 p
   have ha:=hm.arc (k:Int) (by omega) (by omega) (p.getD k 0,(k:Int)+1) (by
    rw[AR,hn,Int.toNat_natCast]
    exact List.mem_singleton.2 rfl)
   have hr:=hm.rng ((k:Int)+1) (by omega) (by omega)
   rw[Ac p 0 (by omega),Ju X _ 0 _ _ hi]
   simp only at ha
   rw[yC (Ic sX _) (by rw[ha];exact hr.1),ha,if_neg (by omega)]
   rfl
 have:=key p.length (Nat.le_refl _)
 rwa [List.take_length]at this
structure sQ (h:AM) (f:List AE) (p q:List Int) (U:List AE):Prop where
 vf:VF h U
 left:∃m,MB h f U m
 eq:∃n,Bn U 0 p=some n∧Bn U 0 q=some n
 least:∀X,VF h X→∀m1,MB h f X m1→∀n,Bn X 0 p=some n→Bn X 0 q=some n→∃m,MB h U X m
 len:U.length≤f.length+p.length+q.length+2
theorem A2o {h:AM} (hu:HU h) {f U V:List AE} {p q:List Int} (h1:sQ h f p q U) (h2:sQ h f p q V):U=V:=by
 obtain⟨m1,g1⟩:=h2.left
 obtain⟨n1,a1,b1⟩:=h2.eq
 obtain⟨m3,g3⟩:=h1.left
 obtain⟨n2,a2,b2⟩:=h1.eq
 obtain⟨m,hm⟩:=h1.least V h2.vf m1 g1 n1 a1 b1
 obtain⟨m',hm'⟩:=h2.least U h1.vf m3 g3 n2 a2 b2
 exact A2Z hu h1.vf h2.vf hm hm'
open Classical in
noncomputable def Oz (h:AM) (f:List AE) (p q:List Int):List AE×Bool:=if H:∃U,sQ h f p q U then (H.choose,true) else ([],false)
theorem WW {h:AM} (hu:HU h) {f U:List AE} {p q:List Int} (h1:sQ h f p q U):Oz h f p q=(U,true):=by
 unfold Oz
 have H:∃U,sQ h f p q U:=⟨U,h1⟩
 rw[dif_pos H,A2o hu H.choose_spec h1]
theorem WX {h:AM} {f:List AE} {p q:List Int} (h1:∀X,VF h X→∀m1,MB h f X m1→∀n,Bn X 0 p=some n→Bn X 0 q≠some n):Oz h f p q=([],false):=by
 unfold Oz
 rw[dif_neg]
 rintro⟨U,hU⟩
 obtain⟨m1,g1⟩:=hU.left
 obtain⟨n,a,b⟩:=hU.eq
 exact h1 U hU.vf m1 g1 n a b
abbrev sR (f:List AE) (p q:List Int):List AE:=AQ (AQ f (CU p)) (CU q)
abbrev eqP (f:List AE) (p q:List Int):List (Int×Int):=[(0,(f.length:Int)),((f.length:Int),((f.length+(p.length+1):Nat):Int)),(((f.length+p.length:Nat):Int),((f.length+(p.length+1)+q.length:Nat):Int))]
theorem YB (f:List AE) (p q:List Int):(sR f p q).length=f.length+(p.length+1)+(q.length+1):=by
 rw[BJ,BJ,B1,B1]
theorem YC {h:AM} (ht:NS h) {f:List AE} {p q:List Int} (hf:VF h f) (hp:p.length≤1000) (hq:q.length≤1000) (hl:f.length≤10000) {X:List AE} (hX:VF h X) {m1:Int→Int} (h1:MB h f X m1) {n:Int} (hn1:Bn X 0 p=some n) (hn2:Bn X 0 q=some n):∃v,X3 h (sR f p q) (eqP f p q) X v∧v 0=0:=by
 obtain⟨a,ha,ea⟩:=aZ ht hX.good hX.pos hX.ty hX.str hn1
 obtain⟨b,hb,eb⟩:=aZ ht hX.good hX.pos hX.ty hX.str hn2
 have hpf:=hf.pos
 have j1:=BJ f (CU p)
 rw[B1]at j1
 have hg:=DF hf.good (E5 hp) (by rw[B1];omega)
 refine⟨_,fC (Ox hg (E5 hq) (Ox hf.good (E5 hp) (Jy h1) (Jy ha)) (Jy hb)) fun r hr=>?_,?_⟩
 ·simp only[List.mem_cons,List.not_mem_nil,or_false]at hr
  rcases hr with rfl|rfl|rfl
  ·simp only
   rw[j1,if_pos (by omega),if_pos (by omega),if_pos (by omega),if_neg (by omega),Int.sub_self,h1.zero,ha.zero]
  ·simp only
   rw[j1,if_pos (by omega),if_neg (by omega),if_neg (by omega),Int.sub_self,ha.zero,show ((f.length+(p.length+1):Nat):Int)-((f.length+(p.length+1):Nat):Int)=0 by omega,hb.zero]
  ·simp only
   rw[j1,if_pos (by omega),if_neg (by omega),if_neg (by omega),show ((f.length+p.length:Nat):Int)-(f.length:Int)=(p.length:Int) by omega,ea,show ((f.length+(p.length+1)+q.length:Nat):Int)-((f.length+(p.length+1):Nat):Int)=(q.length:Int) by omega,eb]
 ·show (if (0:Int)<((AQ f (CU p)).length:Int) then (if (0:Int)<(f.length:Int) then m1 0 else a (0-(f.length:Int))) else b (0-((AQ f (CU p)).length:Int)))=0
  rw[j1,if_pos (by omega),if_pos (by omega)]
  exact h1.zero
theorem yF {h:AM} (ht:NS h) {f:List AE} {p q:List Int} (hf:VF h f) (fp:Uu h p) (fq:Uu h q) (hp:p.length≤1000) (hq:q.length≤1000) (hl:f.length≤10000) {P ty:List Int} {ar:List (List (Int×Int))} (hj:JI h (sR f p q) (eqP f p q) P ty ar []) (hQ:AY (quo P ty ar)):sQ h f p q (AO (quo P ty ar) (DV P 0)):=by
 have hpf:=hf.pos
 have j1:=BJ f (CU p)
 rw[B1]at j1
 have j2:=YB f p q
 have hN:0<(sR f p q).length:=by omega
 have h0:=NP hj hQ hN
 have c1:X5 (sR f p q) 0 f:=JE (JE Py)
 have c2:X5 (sR f p q) f.length (CU p):=JE Jz
 have c3:X5 (sR f p q) (f.length+(p.length+1)) (CU q):=by
  have:=Jz (f:=AQ f (CU p)) (g:=CU q)
  rw[j1]at this
  exact this
 have r1:=He hj hQ hN c1 hf.ro h0
 have e1:DV P (f.length:Int)∈MQ P ty ar:=T7 hj (x:=0) (by simp) h0
 have r2:=He hj hQ hN c2 (aY p) e1
 have e2:DV P ((f.length+(p.length+1):Nat):Int)∈MQ P ty ar:=T7 hj (x:=(f.length:Int)) (by simp) e1
 have r3:=He hj hQ hN c3 (aY q) e2
 have hU:=x4 hj hQ hN fun x x0 x1=>by
  by_cases hx:x<(f.length:Int)
  ·have:=r1 x.toNat x (Nat.le_refl _) x0 hx
   rwa [show ((0:Nat):Int)+x=x by omega]at this
  ·by_cases hx2:x<((f.length+(p.length+1):Nat):Int)
   ·have:=r2 _ (x-(f.length:Int)) (Nat.le_refl _) (by omega) (by rw[B1];omega)
    rwa [show (f.length:Int)+(x-(f.length:Int))=x by omega]at this
   ·have:=r3 _ (x-((f.length+(p.length+1):Nat):Int)) (Nat.le_refl _) (by omega) (by rw[B1];omega)
    rwa [show ((f.length+(p.length+1):Nat):Int)+(x-((f.length+(p.length+1):Nat):Int))=x by omega]at this
 generalize hv:(fun x=>Be (MQ P ty ar) (DV P x))=v at hU
 have hft:∀x∈sR f p q,∀a∈x.2,0≤a.1∧a.1<(h.2.length:Int):=by
  have key:∀ {g k:List AE},(∀x∈g,∀a∈x.2,0≤a.1∧a.1<(h.2.length:Int))→(∀x∈k,∀a∈x.2,0≤a.1∧a.1<(h.2.length:Int))→∀x∈AQ g k,∀a∈x.2,0≤a.1∧a.1<(h.2.length:Int):=by
   intro g k hg hk x hx
   unfold AQ at hx
   rcases List.mem_append.1 hx with hx|hx
   ·exact hg x hx
   ·obtain⟨y,hy,rfl⟩:=List.mem_map.1 hx
    intro a ha
    obtain⟨b,hb,rfl⟩:=List.mem_map.1 ha
    exact hk y hy b hb
  exact key (key hf.ft (JF fp)) (JF fq)
 have hvf:=x8 hj hQ hN hft hU
 have z1:v (f.length:Int)=0:=by rw[←hU.proj.eq (0,(f.length:Int)) (by simp)];exact hU.zero
 have z2:v ((f.length+(p.length+1):Nat):Int)=0:=by rw[←hU.proj.eq ((f.length:Int),((f.length+(p.length+1):Nat):Int)) (by simp)];exact z1
 have z3:v ((f.length+p.length:Nat):Int)=v ((f.length+(p.length+1)+q.length:Nat):Int):=hU.proj.eq (((f.length+p.length:Nat):Int),((f.length+(p.length+1)+q.length:Nat):Int)) (by simp)
 refine⟨hvf,⟨_,LS hU.proj c1 hU.zero⟩,⟨v ((f.length+p.length:Nat):Int),?_,?_⟩,fun X hX m1 h1 n hn1 hn2=>?_,by have:=hU.len;omega⟩
 ·have:=a9 hvf.good hvf.pos hvf.str (LS hU.proj c2 z1)
  rw[this]
  congr 2
 ·have:=a9 hvf.good hvf.pos hvf.str (LS hU.proj c3 z2)
  rw[this,z3]
  congr 2
 ·obtain⟨w,hw,hw0⟩:=YC ht hf hp hq hl hX h1 hn1 hn2
  exact hU.least X w hX.ty hw hw0
end
/- Plain: a structure under a path is one in canonical form; what lies below the path in what it goes into. -/
section
theorem GA (p:List Int) (g:List AE):(B0 p g).length=p.length+g.length:=by simp[B0,D8]
theorem LX {p:List Int} {g:List AE} {i:Int} (i0:0≤i) (i1:i<(p.length:Int)):(B0 p g).getD i.toNat (0,[])=(0,[(p.getD i.toNat 0,i+1)]):=by
 unfold B0
 rw[List.getD_eq_getElem?_getD,List.getElem?_append_left (by rw[DG];omega)]
 unfold D8
 rw[List.getElem?_map,List.getElem?_range (by omega)]
 show ((0:Int),[(p.getD i.toNat 0,((i.toNat:Nat):Int)+1)])=_
 rw[Int.toNat_of_nonneg i0]
theorem Fj {p:List Int} {g:List AE} {y:Int} (y0:0≤y) (y1:y<(g.length:Int)):(B0 p g).getD ((p.length:Int)+y).toNat (0,[])=((g.getD y.toNat (0,[])).1,Ap p.length (g.getD y.toNat (0,[])).2):=by
 unfold B0
 have e:((p.length:Int)+y).toNat=p.length+y.toNat:=by omega
 rw[e,List.getD_eq_getElem?_getD,List.getElem?_append_right (by rw[DG];omega),DG,Nat.add_sub_cancel_left]
 rw[←List.getD_eq_getElem?_getD]
 exact Pw (fun x:AE=>(x.1,Ap p.length x.2)) (0,[]) (0,[]) (by omega)
theorem J0 {p:List Int} {g:List AE} {x:AE} (hx:x∈B0 p g):(∃i,i<p.length∧x=(0,[(p.getD i 0,(i:Int)+1)]))∨∃y∈g,x=(y.1,Ap p.length y.2):=by
 rcases List.mem_append.1 hx with h|h
 ·obtain⟨i,hi,rfl⟩:=List.mem_map.1 h
  exact .inl ⟨i,by simpa using hi,rfl⟩
 ·obtain⟨y,hy,rfl⟩:=List.mem_map.1 h
  exact .inr ⟨y,hy,rfl⟩
theorem fH {b:Nat} {l:List (Int×Int)} (h:KN l):KN (Ap b l):=by
 unfold Ap KN
 rw[List.pairwise_map]
 exact h
theorem Q8 {p:List Int} {g:List AE} (hp:p.length≤1000) (hg:AY g) (g0:0<g.length) (hl:g.length≤10000):AY (B0 p g):=by
 have hl2:=GA p g
 refine⟨by omega,fun x hx=>?_⟩
 rcases J0 hx with ⟨i,hi,rfl⟩|⟨y,hy,rfl⟩
 ·refine⟨by simp,fun a ha=>?_⟩
  have:a=(p.getD i 0,(i:Int)+1):=by simpa using ha
  subst this
  rw[hl2]
  simp only
  omega
 ·refine⟨by unfold Ap;rw[List.length_map];exact(hg.2 y hy).1,fun a ha=>?_⟩
  obtain⟨b,hb,rfl⟩:=List.mem_map.1 ha
  have:=(hg.2 y hy).2 b hb
  rw[hl2]
  simp only
  omega
theorem sS {h:AM} {f:List AE} (vf:VF h f):DT f f.length [] 0=(List.range f.length).map fun(i:Nat)=>(i:Int):=by
 have hpos:=vf.pos
 have ho:=MD vf.good (r:=0) (by omega) (by omega)
 have hl:=LQ f 0
 have hg:=fun i=>LP (f:=f) (r:=0) (i:=i)
 rw[vf.can]at hl
 simp only[vf.can]at hg
 generalize hod:DT f f.length [] 0=o at *
 have hm:MB h f f (fun i=>o.getD i.toNat 0):=by
  refine⟨ho.zero.1,fun i i0 i1=>ho.ok.rng _ (AD o 0 (by omega)),fun i i0 i1=>?_,fun i i0 i1 a ha=>?_⟩
  ·rw[hg i.toNat (by omega)]
   exact Ps h _
  ·rw[AR,hg i.toNat (by omega)]at ha
   obtain⟨b,hb,rfl⟩:=List.mem_map.1 ha
   have hb2:=ho.cl _ (AD o 0 (by omega)) b hb
   show DI (AR f (o.getD i.toNat 0)) b.1=o.getD (Be o b.2).toNat 0
   rw[(Dt hb2).2.2]
   exact JD (Ic vf.str _) hb
 have hu:=T8 vf.ro hm (fE vf.str)
 apply List.ext_getElem
 ·rw[List.length_map,List.length_range];omega
 ·intro i h1 h2
  rw[List.getElem_map,List.getElem_range]
  have:=hu i (i:Int) (by omega) (by omega) (by omega)
  simp only[Int.toNat_natCast,id]at this
  rw[←this,List.getD_eq_getElem?_getD,List.getElem?_eq_getElem h1]
  rfl
theorem sT {f:List AE} (hf:AY f) (h:DT f f.length [] 0=(List.range f.length).map fun(i:Nat)=>(i:Int)):AO f 0=f:=by
 unfold AO
 generalize hl:DT f f.length [] 0=l at *
 have hll:l.length=f.length:=by rw[h];simp
 have hlk:∀k,(hk:k<l.length)→l[k]=(k:Int):=fun k hk=>by subst h;simp
 clear h
 have hnd:l.Nodup:=by
  unfold List.Nodup
  rw[List.pairwise_iff_getElem]
  intro i j hi hj hij e
  rw[hlk i hi,hlk j hj]at e
  omega
 have hidx:∀x,0≤x→x<(l.length:Int)→Be l x=x:=fun x x0 x1=>by
  have:=GU hnd (i:=x.toNat) (by omega)
  have e:l.getD x.toNat 0=x:=by
   rw[List.getD_eq_getElem?_getD,List.getElem?_eq_getElem (by omega)]
   show l[x.toNat]=x
   rw[hlk _ (by omega)]
   omega
  rw[e]at this
  rw[this]
  omega
 apply List.ext_getElem
 ·rw[List.length_map];omega
 ·intro i h1 h2
  rw[List.getElem_map,hlk i (by simpa using h1)]
  have hU2:f.getD (i:Int).toNat (0,[])=f[i]:=by simp[List.getD_eq_getElem?_getD,h2]
  unfold DU
  rw[hU2]
  have:∀a∈f[i].2,I8 l a=a:=fun a ha=>by
   have hg:=(hf.2 _ (List.getElem_mem h2)).2 a ha
   unfold I8
   rw[hidx a.2 hg.1 (by omega)]
  rw[List.map_congr_left this,List.map_id']
theorem o5 {Q R:List AE} {ψ:Int→Int} {C:Int→Prop} (h:Iso Q R ψ C) {pre:List Int} (hp:∀i,C i→ψ i∉pre):∀(k:Nat) (t:List Int) (i:Int),(∀x∈t,C x)→C i→DT R k (pre++t.map ψ) (ψ i)=pre++(DT Q k t i).map ψ∧∀x∈DT Q k t i,C x
 | 0,t,i,ht,hi=>⟨rfl,ht⟩
 | k+1,t,i,ht,hi=>by
  have key:∀(l:List (Int×Int)) (t:List Int),(∀a∈l,C a.2)→(∀x∈t,C x) →
    (l.map fun a=>(a.1,ψ a.2)).foldl (Ab R k) (pre++t.map ψ)=pre++(l.foldl (Ab Q k) t).map ψ∧∀x∈l.foldl (Ab Q k) t,C x:=by
   intro l
   induction l with
   | nil=>intro t _ ht;exact⟨rfl,ht⟩
   | cons a l ih =>
    intro t hl ht
    have ha:=hl a (by simp)
    have hs:Ab R k (pre++t.map ψ) (a.1,ψ a.2)=pre++(Ab Q k t a).map ψ∧∀x∈Ab Q k t a,C x:=by
     unfold Ab
     by_cases hm:a.2∈t
     ·rw[if_pos hm,if_pos (List.mem_append.2 (.inr (List.mem_map.2 ⟨_,hm,rfl⟩)))]
      exact⟨rfl,ht⟩
     ·have hm2:¬ψ a.2∈pre++t.map ψ:=by
       intro hh
       rcases List.mem_append.1 hh with hh|hh
       ·exact hp _ ha hh
       ·obtain⟨x,hx,e⟩:=List.mem_map.1 hh
        exact hm (h.inj x a.2 (ht x hx) ha e▸hx)
      rw[if_neg hm]
      simp only[if_neg hm2]
      exact o5 h hp k t a.2 ht ha
    rw[List.map_cons,List.foldl_cons,List.foldl_cons,hs.1]
    exact ih _ (fun b hb=>hl b (by simp[hb])) hs.2
  rw[CN,CN]
  have e:pre++t.map ψ++[ψ i]=pre++(t++[i]).map ψ:=by simp
  have ea:(R.getD (ψ i).toNat (0,[])).2=(AR Q i).map fun a=>(a.1,ψ a.2):=h.arc i hi
  rw[ea,e]
  refine key _ _ (h.cl i hi) fun x hx=>?_
  rcases List.mem_append.1 hx with hx|hx
  ·exact ht x hx
  ·have:x=i:=by simpa using hx
   rw[this];exact hi
abbrev YD (n:Nat):List Int:=(List.range n).map fun(i:Nat)=>(i:Int)
theorem bA {n:Nat} {x:Int} (h:x∈YD n):0≤x∧x<(n:Int):=by
 obtain⟨i,hi,rfl⟩:=List.mem_map.1 h
 have:=List.mem_range.1 hi
 omega
theorem sU (n:Nat):YD (n+1)=YD n++[(n:Int)]:=by unfold YD;rw[List.range_succ,List.map_append];rfl
theorem UG {p:List Int} {g:List AE}:∀(r j:Nat) (k:Nat),j+r=p.length→DT (B0 p g) (r+k) (YD j) (j:Int)=DT (B0 p g) k (YD p.length) (p.length:Int)
 | 0,j,k,h=>by rw[show j=p.length by omega,Nat.zero_add]
 | r+1,j,k,h=>by
  rw[show r+1+k=(r+k)+1 by omega,CN,LX (by omega) (by omega),Int.toNat_natCast]
  show Ab (B0 p g) (r+k) (YD j++[(j:Int)]) (p.getD j 0,(j:Int)+1)=_
  rw[←sU]
  unfold Ab
  rw[if_neg (fun hm=>by have:=bA hm;simp only at this;omega)]
  have e:((j:Int)+1)=((j+1:Nat):Int):=by omega
  simp only[e]
  exact UG r (j+1) k (by omega)
theorem sV {h:AM} {p:List Int} {g:List AE} (vg:VF h g) (hp:p.length≤1000) (hl:g.length≤10000):AO (B0 p g) 0=B0 p g:=by
 have hgp:=vg.pos
 refine sT (Q8 hp vg.good hgp hl) ?_
 rw[GA]
 have hw0:=UG (p:=p) (g:=g) p.length 0 g.length (by omega)
 rw[show YD 0=[] from rfl,show ((0:Nat):Int)=0 from rfl]at hw0
 rw[hw0]
 have hiso:Iso g (B0 p g) (fun i=>(p.length:Int)+i) (fun i=>0≤i∧i<(g.length:Int)):=by
  refine⟨fun i hi=>?_,fun i hi a ha=>BC vg.good ha,fun i j hi hj e=>by have e:(p.length:Int)+i=(p.length:Int)+j:=e;omega⟩
  rw[AR,Fj hi.1 hi.2]
  show Ap p.length (AR g i)=_
  unfold Ap
  refine List.map_congr_left fun a _=>?_
  show (a.1,a.2+(p.length:Int))=(a.1,(p.length:Int)+a.2)
  rw[Int.add_comm]
 have hd:=(o5 hiso (pre:=YD p.length) (fun i hi hm=>by have:=bA hm;omega) g.length [] 0 (fun x hx=>by cases hx) ⟨by omega,by omega⟩).1
 rw[List.map_nil,List.append_nil,Int.add_zero,sS vg]at hd
 rw[hd]
 rw[List.range_add,List.map_append,List.map_map,List.map_map]
 refine congrArg _ (List.map_congr_left fun i _=>?_)
 show (p.length:Int)+(i:Int)=((p.length+i:Nat):Int)
 omega
theorem UH {h:AM} (h0:0<h.1.length) {p:List Int} {g:List AE} (vg:VF h g) (fp:Uu h p) (hp:p.length≤1000) (hl:g.length≤10000):VF h (B0 p g):=by
 have hgp:=vg.pos
 have hul:=GA p g
 refine⟨Q8 hp vg.good hgp hl,by omega,fun x hx=>?_,fun x hx=>?_,fun x hx a ha=>?_,sV vg hp hl,fun i i0 i1=>?_⟩
 ·rcases J0 hx with ⟨i,hi,rfl⟩|⟨y,hy,rfl⟩
  ·exact⟨by simp,by simp only;omega⟩
  ·exact vg.ty y hy
 ·rcases J0 hx with ⟨i,hi,rfl⟩|⟨y,hy,rfl⟩
  ·exact List.pairwise_singleton _ _
  ·exact fH (vg.str y hy)
 ·rcases J0 hx with ⟨i,hi,rfl⟩|⟨y,hy,rfl⟩
  ·have:a=(p.getD i 0,(i:Int)+1):=by simpa using ha
   rw[this]
   exact fp _ (DM hi)
  ·obtain⟨b,hb,rfl⟩:=List.mem_map.1 ha
   exact vg.ft y hy b hb
 ·by_cases hi:i≤(p.length:Int)
  ·refine⟨i-1,by omega,by omega,(p.getD (i-1).toNat 0,i-1+1),?_,by simp only;omega⟩
   rw[AR,LX (by omega) (by omega)]
   exact List.mem_singleton.2 rfl
  ·obtain⟨j,j0,j1,x,hx,e⟩:=vg.ro (i-p.length) (by omega) (by omega)
   refine⟨(p.length:Int)+j,by omega,by omega,(x.1,x.2+(p.length:Int)),?_,by simp only;omega⟩
   rw[AR,Fj j0 (by omega)]
   exact List.mem_map.2 ⟨x,hx,rfl⟩
theorem sW {f:List AE} (hf:AY f) {r:Int} (r0:0≤r) (r1:r<(f.length:Int)):AY (AO f r)∧0<(AO f r).length:=by
 have ho:=MD hf r0 r1
 have hl:=LQ f r
 have hg:=fun i=>LP (f:=f) (r:=r) (i:=i)
 generalize hod:DT f f.length [] r=o at *
 have hol:=ho.ok.len
 have hf1:=hf.1
 have hz:=ho.zero.2
 refine⟨⟨by omega,fun x hx=>?_⟩,by omega⟩
 obtain⟨i,hi,rfl⟩:=Cu (0,[]) hx
 rw[hg i (by omega)]
 have hm:o.getD i 0∈o:=AD o 0 (by omega)
 have hr:=ho.ok.rng _ hm
 refine⟨?_,fun a ha=>?_⟩
 ·show (List.map (I8 o) _).length≤_
  rw[List.length_map]
  exact(hf.2 _ (AD f (0,[]) (k:=(o.getD i 0).toNat) (by omega))).1
 ·obtain⟨b,hb,rfl⟩:=List.mem_map.1 ha
  have:=Dt (ho.cl _ hm b hb)
  rw[hl]
  exact⟨this.1,this.2.1⟩
theorem A2p {h:AM} {f:List AE} (hf:AY f) (ht:D7 h f) {r:Int} (r0:0≤r) (r1:r<(f.length:Int)):D7 h (AO f r):=by
 have ho:=MD hf r0 r1
 intro x hx
 obtain⟨n,hn,rfl⟩:=List.mem_map.1 hx
 have hr:=ho.ok.rng n hn
 exact ht (f.getD n.toNat (0,[])) (AD f (0,[]) (k:=n.toNat) (by omega))
theorem yG {h:AM} {p:List Int} {g U:List AE} (vg:VF h g) (vu:VF h U) {m:Int→Int} (hm:MB h (B0 p g) U m):Bn U 0 p=some (m (p.length:Int))∧(0≤m (p.length:Int)∧m (p.length:Int)<(U.length:Int))∧KI h g (AO U (m (p.length:Int)))=true:=by
 have hgp:=vg.pos
 have hul:=GA p g
 have hrg:=hm.rng (p.length:Int) (by omega) (by omega)
 have key:∀k,k≤p.length→Bn U 0 (p.take k)=some (m (k:Int)):=by
  intro k
  induction k with
  | zero =>
   intro _
   rw[List.take_zero]
   show some (0:Int)=some (m 0)
   rw[hm.zero]
  | succ k ih =>
   intro hk
   have hi:=ih (by omega)
   have hn:=LX (p:=p) (g:=g) (i:=(k:Int)) (by omega) (by omega)
   have ha:=hm.arc (k:Int) (by omega) (by omega) (p.getD k 0,(k:Int)+1) (by
    rw[AR,hn,Int.toNat_natCast]
    exact List.mem_singleton.2 rfl)
   have hr:=hm.rng ((k:Int)+1) (by omega) (by omega)
   rw[Ac p 0 (by omega),Ju U _ 0 _ _ hi]
   simp only at ha
   rw[yC (Ic vu.str _) (by rw[ha];exact hr.1),ha,if_neg (by omega)]
   rfl
 have hw:=key p.length (Nat.le_refl _)
 rw[List.take_length]at hw
 refine⟨hw,hrg,?_⟩
 have ho:=MD vu.good hrg.1 hrg.2
 have hcl:=LQ U (m (p.length:Int))
 have hcg:=fun i=>LP (f:=U) (r:=m (p.length:Int)) (i:=i)
 have hgs:=oM (h:=h) (a:=g) (b:=AO U (m (p.length:Int))) vg.good hgp vg.ro (m:=fun i=>Be (DT U U.length [] (m (p.length:Int))) (m ((p.length:Int)+i)))
 generalize hod:DT U U.length [] (m (p.length:Int))=o at *
 have hin:∀(n:Nat) (i:Int),i.toNat≤n→0≤i→i<(g.length:Int)→m ((p.length:Int)+i)∈o:=by
  intro n
  induction n with
  | zero =>
   intro i hin i0 i1
   rw[show i=0 by omega,Int.add_zero,←ho.zero.1]
   exact AD o 0 ho.zero.2
  | succ n ih =>
   intro i hin i0 i1
   by_cases hi0:i=0
   ·exact ih i (by omega) i0 i1
   ·obtain⟨j,j0,j1,x,hx,e⟩:=vg.ro i (by omega) i1
    have hj:=ih j (by omega) j0 (by omega)
    have ha:=hm.arc ((p.length:Int)+j) (by omega) (by omega) (x.1,x.2+(p.length:Int)) (by
     rw[AR,Fj j0 (by omega)]
     exact List.mem_map.2 ⟨x,hx,rfl⟩)
    simp only at ha
    have hr:=hm.rng ((p.length:Int)+i) (by omega) (by omega)
    rw[show x.2+(p.length:Int)=(p.length:Int)+i by omega]at ha
    obtain⟨b,hb,-,e2⟩:=LO (l:=AR U (m ((p.length:Int)+j))) (e:=x.1) (by rw[ha];exact hr.1)
    rw[←ha,←e2]
    exact ho.cl _ hj b hb
 have hat:∀i:Int,0≤i→i<(g.length:Int)→(AO U (m (p.length:Int))).getD (Be o (m ((p.length:Int)+i))).toNat (0,[])=DU U o (m ((p.length:Int)+i)):=fun i i0 i1=>by
  have hx:=Dt (hin i.toNat i (Nat.le_refl _) i0 i1)
  rw[hcg _ (by omega),hx.2.2]
 refine hgs ⟨?_,fun i i0 i1=>?_,fun i i0 i1=>?_,fun i i0 i1 x hx=>?_⟩
 ·show Be o (m ((p.length:Int)+0))=0
  rw[Int.add_zero]
  have:=GU ho.ok.nd (i:=0) ho.zero.2
  rw[ho.zero.1]at this
  exact this
 ·have hx:=Dt (hin i.toNat i (Nat.le_refl _) i0 i1)
  rw[hcl]
  exact⟨hx.1,hx.2.1⟩
 ·rw[hat i i0 i1]
  have:=hm.ty ((p.length:Int)+i) (by omega) (by omega)
  rw[Fj i0 i1]at this
  exact this
 ·have hxr:=BC vg.good hx
  have ha:=hm.arc ((p.length:Int)+i) (by omega) (by omega) (x.1,x.2+(p.length:Int)) (by
   rw[AR,Fj i0 i1]
   exact List.mem_map.2 ⟨x,hx,rfl⟩)
  simp only at ha
  have hr:=hm.rng (x.2+(p.length:Int)) (by omega) (by omega)
  obtain⟨b,hb,e1,e2⟩:=LO (l:=AR U (m ((p.length:Int)+i))) (e:=x.1) (by rw[ha];exact hr.1)
  rw[AR,hat i i0 i1]
  have hsr:KN (DU U o (m ((p.length:Int)+i))).2:=by
   show List.Pairwise _ (List.map (I8 o) _)
   rw[List.pairwise_map]
   exact Ic vu.str _
  have:=JD hsr (a:=I8 o b) (List.mem_map.2 ⟨b,hb,rfl⟩)
  show DI (DU U o (m ((p.length:Int)+i))).2 x.1=Be o (m ((p.length:Int)+x.2))
  rw[←e1]
  rw[show (p.length:Int)+x.2=x.2+(p.length:Int) by omega,←ha,←e2]
  exact this
end
/- Functions of path: Under, step, At. -/
section
def bB (b:Nat) (g:List AE) (i:Nat):List AE:=(g.take i).map fun x:AE=>(x.1,Ap b x.2)
theorem bC (b:Nat) (g:List AE) {i:Nat} (h:i<g.length):bB b g (i+1)=bB b g i++[((g.getD i (0,[])).1,Ap b (g.getD i (0,[])).2)]:=by
 unfold bB
 rw[Ac g (0,[]) h,List.map_append]
 rfl
theorem o6 (b:Nat) (g:List AE):bB b g g.length=g.map fun x:AE=>(x.1,Ap b x.2):=by
 unfold bB
 rw[List.take_length]
theorem o7 (b:Nat) (g:List AE) {i:Nat} (h:i≤g.length):(bB b g i).length=i:=by
 unfold bB
 rw[List.length_map,List.length_take]
 omega
def QB:Af:={ ins:=[Ek,Ds],pre:=fun(p,g,_)=>List.length p≤1000∧AY g,out:=fun(p,g,_)=>[.p Ds (B0 p g)] }
theorem bD:Al Tryz.prog 71 QB:=by
 refine AU Tryz.func71 (by kernel_rfl) rfl Tryz.ntmps71 (by decide) (by kernel_rfl) (AG [] [26]) AJ ?_
 rintro w0 O0 ⟨p,g,u⟩ hc-⟨hp,hg⟩
 have hgl:=hg.1
 simp only[QB,AN]
 repeat'(first|exact trivial|refine eS rfl ?_|refine AB ?_|refine rX [0,1,3,4,5,6,7,9,10,12,13,14,15,16,33,34,35,36,43,44,45,46] hc ?_ ?_|refine rC ?_ ?_<;>intro AA<;>try(cases AA;done))
 refine AL (ι:={k:Nat//k≤p.length}) (fun k=>⟨[(0,.p Ek p),(3,.bp 3 [] 0),(4,.bp 4 [] 0),(5,.bp 5 [] 0),(13,.p Ek p),(14,.p (.int .i64) (p.length:Int)),(15,.p (.int .i64) (k.1:Int))],[(3,.box 25 true [.p Fl g]),(4,.box 25 true [.raw (.slice none 0 0)]),(5,.box 25 true [.sr 29 J9 0 (D8 p k.1).length]),(29,.arr 88 J9 (D8 p k.1))]⟩) (fun k=>p.length-k.1) ⟨0,Nat.zero_le _⟩ (AC [(3,.nm 3),(4,.nm 4),(5,.nm 5),(29,.nil)] rfl rfl ?_ ?_) (fun k=>?_)
 ·first|exact eN|refine eM ?_
  exact⟨rfl,rfl⟩
 ·first|exact eN|refine eM ?_
 ·obtain⟨k,hk⟩:=k
  have hcl:=DG p k
  repeat'(first|exact trivial|refine eS rfl ?_|refine AB ?_|refine rX [0,1,3,4,5,6,7,9,10,12,13,14,15,16,33,34,35,36,43,44,45,46] hc ?_ ?_|refine rC ?_ ?_<;>intro AA<;>try(cases AA;done))
  ·exact AA
  ·have hk2:k<p.length:=Int.ofNat_lt.1 AA
   refine⟨⟨by omega,by omega⟩,?_⟩
   rw[hcl]
   simp only[AP]
   omega
  ·omega
  ·have hk2:k<p.length:=Int.ofNat_lt.1 AA
   have hs:=Q7 p k
   refine⟨⟨k+1,hk2⟩,by simp only;omega,AC [(3,.nm 3),(4,.nm 4),(5,.nm 5),(29,.nm 29)] rfl rfl ?_ ?_⟩
   ·simp only[hs]
    first|exact eN|refine eM ?_
   ·first|exact eN|refine eM ?_
  ·have hke:k=p.length:=by
    have:=Int.ofNat_le.1 AA
    omega
   subst hke
   obtain⟨ch0,hch0⟩:∃c,D8 p p.length=c:=⟨_,rfl⟩
   have hchl:=DG p p.length
   have hund:ch0++g.map (fun x:AE=>(x.1,Ap p.length x.2))=B0 p g:=by rw[←hch0];rfl
   generalize D8 p p.length=ch at *
   subst hch0
   refine AL (ι:={i:Nat//i≤g.length}) (fun i=>⟨[(0,.p Ek p),(3,.bp 3 [] 0),(4,.bp 4 [] 0),(5,.bp 5 [] 0),(33,.p Fl g),(34,.p (.int .i64) (g.length:Int)),(35,.p (.int .i64) (i.1:Int))],[(3,.box 25 true [.p Fl g]),(4,.box 25 true [.raw (.slice none 0 0)]),(5,.box 25 true [.sr 29 J9 0 (ch++bB p.length g i.1).length]),(29,.arr 88 J9 (ch++bB p.length g i.1))]⟩) (fun i=>g.length-i.1) ⟨0,Nat.zero_le _⟩ (AC [(3,.nm 3),(4,.nm 4),(5,.nm 5),(29,.nm 29)] rfl rfl ?_ ?_) (fun i=>?_)
   ·have e0:ch++bB p.length g 0=ch:=by simp[bB]
    simp only[e0]
    first|exact eN|refine eM ?_
   ·first|exact eN|refine eM ?_
   ·obtain⟨i,hi⟩:=i
    have hsl:=o7 p.length g hi
    have hss:=fun h:i<g.length=>bC p.length g h
    simp only
    generalize hos:bB p.length g i=os at *
    repeat'(first|exact trivial|refine eS rfl ?_|refine AB ?_|refine rX [0,1,3,4,5,6,7,9,10,12,13,14,15,16,33,34,35,36,43,44,45,46] hc ?_ ?_|refine rC ?_ ?_<;>intro AA<;>try(cases AA;done))
    ·exact AA
    ·have hi2:i<g.length:=Int.ofNat_lt.1 AA
     have hrng:=GV hg i
     have hxl:(g.getD i (0,[])).2.length≤100000:=(hg.2 _ (AD g (0,[]) hi2)).1
     generalize hx:g.getD i (0,[])=x at *
     obtain⟨xt,xs⟩:=x
     simp only at hrng hxl hss ⊢
     refine AL (ι:={j:Nat//j≤xs.length}) (fun j=>⟨[(0,.p Ek p),(3,.bp 3 [] 0),(4,.bp 4 [] 0),(5,.bp 5 [] 0),(10,.bp 10 [] 0),(33,.p Fl g),(34,.p (.int .i64) (g.length:Int)),(35,.p (.int .i64) (i:Int)),(43,.p CE xs),(44,.p (.int .i64) (xs.length:Int)),(45,.p (.int .i64) (j.1:Int))],[(3,.box 25 true [.p Fl g]),(4,.box 25 true [.raw (.slice none 0 0)]),(5,.box 25 true [.sr 29 J9 0 (ch++os).length]),(29,.arr 88 J9 (ch++os)),(10,.box 88 true [.p T3 xt,.sr 60 Aq 0 (Ap p.length (xs.take j.1)).length]),(60,.arr 108 Aq (Ap p.length (xs.take j.1)))]⟩) (fun j=>xs.length-j.1) ⟨0,Nat.zero_le _⟩ (AC [(3,.nm 3),(4,.nm 4),(5,.nm 5),(29,.nm 29),(10,.nm 10),(60,.nil)] rfl rfl ?_ ?_) (fun j=>?_)
     ·first|exact eN|refine eM ?_
      exact⟨rfl,rfl⟩
     ·first|exact eN|refine eM ?_
     ·obtain⟨j,hj⟩:=j
      have hal:(Ap p.length (xs.take j)).length=j:=by unfold Ap;rw[List.length_map,List.length_take];omega
      have has:=fun h:j<xs.length=>DE (fun a:Int×Int=>(a.1,a.2+(p.length:Int))) xs (0,0) h
      simp only
      repeat'(first|exact trivial|refine eS rfl ?_|refine AB ?_|refine rX [0,1,3,4,5,6,7,9,10,12,13,14,15,16,33,34,35,36,43,44,45,46] hc ?_ ?_|refine rC ?_ ?_<;>intro AA<;>try(cases AA;done))
      ·exact AA
      ·have hj2:j<xs.length:=Int.ofNat_lt.1 AA
       have hr:=hrng _ (AD xs (0,0) hj2)
       refine⟨⟨by omega,by omega⟩,?_⟩
       rw[hal]
       simp only[AP]
       omega
      ·omega
      ·have hj2:j<xs.length:=Int.ofNat_lt.1 AA
       have has2:Ap p.length (xs.take (j+1))=Ap p.length (xs.take j)++[((xs.getD j (0,0)).1,(xs.getD j (0,0)).2+(p.length:Int))]:=has hj2
       refine⟨⟨j+1,hj2⟩,by simp only;omega,AC [(3,.nm 3),(4,.nm 4),(5,.nm 5),(29,.nm 29),(10,.nm 10),(60,.nm 60)] rfl rfl ?_ ?_⟩
       ·simp only[has2]
        first|exact eN|refine eM ?_
       ·first|exact eN|refine eM ?_
      ·rw[hchl,hsl]
       simp only[AP]
       omega
      ·omega
      ·have hj2:xs.take j=xs:=List.take_of_length_le (Int.ofNat_le.1 AA)
       have hss2:=hss hi2
       rw[hj2]
       refine⟨⟨i+1,hi2⟩,by simp only;omega,AC [(3,.nm 3),(4,.nm 4),(5,.nm 5),(29,.nm 29)] rfl rfl ?_ ?_⟩
       ·simp only[hss2,←List.append_assoc]
        first|exact eN|refine eM ?_
       ·first|exact eN|refine eM ?_
    ·have hie:i=g.length:=by
      have:=Int.ofNat_le.1 AA
      omega
     subst hie
     rw[o6]at hos
     rw[hos]at hund
     exact AH hc [.cell 4 25] rfl (.inl rfl) (by simp) (by rw[←hund];first|exact eR|refine Aw ?_)
def FI (l:List (Int×Int)) (e:Int):Int×Bool:=match l with
 | []=>(0,false)
 | a :: l=>if a.1=e then (a.2,true) else FI l e
theorem UI (e:Int) (l:List (Int×Int)) {k:Nat} (h:k<l.length):FI (l.drop k) e=if (l.getD k (0,0)).1=e then ((l.getD k (0,0)).2,true) else FI (l.drop (k+1)) e:=by
 rw[List.drop_eq_getElem_cons h]
 have e:l.getD k (0,0)=l[k]:=by simp[List.getD_eq_getElem?_getD,h]
 rw[e]
 rfl
def o8:Af:={ ins:=[Ds,T3,T3],pre:=fun(f,n,_,_)=>Ej f∧0≤n∧n<(List.length f:Int),out:=fun(f,n,e,_)=>[.p T3 (FI (List.getD f n.toNat (0,[])).2 e).1,.p .bool (FI (List.getD f n.toNat (0,[])).2 e).2] }
theorem A2q:Al Tryz.prog 123 o8:=by
 refine AU Tryz.func123 (by kernel_rfl) rfl Tryz.ntmps123 (by decide) (by kernel_rfl) (AG []) AJ ?_
 rintro w0 O0 ⟨f,n,e,u⟩ hc-⟨hf,h0,h1⟩
 simp only[o8,AN]
 repeat'(first|exact trivial|refine eS rfl ?_|refine AB ?_|refine rX [0,1,2,3,6,7,9,15,16,17,18,24] hc ?_ ?_|refine rC ?_ ?_<;>intro AA<;>try(cases AA;done))
 ·exact⟨h0,h1⟩
 ·generalize hx:(f.getD n.toNat (0,[])).2=xs at *
  have hxl:xs.length≤100000:=by
   rw[←hx]
   have hn:n.toNat<f.length:=by
    have h0:(0:Int)≤n:=h0
    have h1:(n:Int)<(List.length f:Int):=h1
    exact(Int.toNat_lt h0).2 h1
   exact hf.2 _ (AD f (0,[]) hn)
  refine AL (ι:={k:Nat//k≤xs.length∧FI xs e=FI (xs.drop k) e}) (fun k=>⟨[(2,.p T3 e),(15,.p CE xs),(16,.p (.int .i64) (xs.length:Int)),(17,.p (.int .i64) (k.1:Int))],[]⟩) (fun k=>xs.length-k.1) ⟨0,Nat.zero_le _,rfl⟩ (AC [] rfl rfl ?_ ?_) (fun k=>?_)
  ·first|exact eN|refine eM ?_
  ·first|exact eN|refine eM ?_
  ·obtain⟨k,hk,he⟩:=k
   repeat'(first|exact trivial|refine eS rfl ?_|refine AB ?_|refine rX [0,1,2,3,6,7,9,15,16,17,18,24] hc ?_ ?_|refine rC ?_ ?_<;>intro AA<;>try(cases AA;done))
   ·exact AA
   ·have hk2:k<xs.length:=Int.ofNat_lt.1 (by assumption)
    have h:=UI e xs hk2
    rw[if_pos AA]at h
    rw[he,h]
    exact AH hc [.tmp 6,.tmp 7] rfl (.inl rfl) (by simp) (by first|exact eR|refine Aw ?_)
   ·omega
   ·have hk2:k<xs.length:=Int.ofNat_lt.1 (by assumption)
    have h:=UI e xs hk2
    rw[if_neg AA]at h
    refine⟨⟨k+1,hk2,he.trans h⟩,by simp only;omega,AC [] rfl rfl ?_ ?_⟩
    ·first|exact eN|refine eM ?_
    ·first|exact eN|refine eM ?_
   ·have hk2:xs.drop k=[]:=List.drop_eq_nil_of_le (Int.ofNat_le.1 AA)
    rw[hk2]at he
    rw[he]
    exact AH hc [.tmp 6,.tmp 7] rfl (.inl rfl) (by simp) (by first|exact eR|refine Aw ?_;exact⟨rfl,rfl⟩)
end
/- grammarlabref08.Under. -/
section
def yH:Af:={ ins:=[Ek,Ds],pre:=fun(p,g,_)=>List.length p≤1000∧AY g,out:=fun(p,g,_)=>[.p Ds (B0 p g)] }
attribute [local go_sem] yH
theorem A3R:Al Tryz.prog 88 yH:=by
 refine AU Tryz.func88 (by kernel_rfl) rfl Tryz.ntmps88 (by decide) (by kernel_rfl) (AG [] [26]) AJ ?_
 rintro w0 O0 ⟨p,g,u⟩ hc-⟨hp,hg⟩
 have hgl:=hg.1
 simp only[yH,AN]
 repeat'(first|exact trivial|refine eS rfl ?_|refine AB ?_|refine rX [0,1,3,4,5,6,7,8,9,10,14,35,54] hc ?_ ?_|refine rC ?_ ?_<;>intro AA<;>try(cases AA;done))
 refine AL (ι:={k:Nat//k≤p.length}) (fun k=>⟨[(0,.p Ek p),(3,.bp 3 [] 0),(4,.bp 4 [] 0),(5,.bp 5 [] 0),(6,.p (.int .i64) (k.1:Int))],[(3,.box 25 true [.p Fl g]),(4,.box 25 true [.raw (.slice none 0 0)]),(5,.box 25 true [.sr 29 J9 0 (D8 p k.1).length]),(29,.arr 88 J9 (D8 p k.1))]⟩) (fun k=>p.length-k.1) ⟨0,Nat.zero_le _⟩ (AC [(3,.nm 3),(4,.nm 4),(5,.nm 5),(29,.nil)] rfl rfl ?_ ?_) (fun k=>?_)
 ·first|exact eN|refine eM ?_
  exact⟨rfl,rfl⟩
 ·first|exact eN|refine eM ?_
 ·obtain⟨k,hk⟩:=k
  have hcl:=DG p k
  repeat'(first|exact trivial|refine eS rfl ?_|refine AB ?_|refine rX [0,1,3,4,5,6,7,8,9,10,14,35,54] hc ?_ ?_|refine rC ?_ ?_<;>intro AA<;>try(cases AA;done))
  ·have hk2:k<p.length:=Int.ofNat_lt.1 AA
   refine⟨AA,⟨by omega,by omega⟩,?_⟩
   rw[hcl]
   simp only[AP]
   omega
  ·exact eV
  ·have hk2:k<p.length:=Int.ofNat_lt.1 AA
   have hs:=Q7 p k
   refine⟨⟨k+1,hk2⟩,by simp only;omega,AC [(3,.nm 3),(4,.nm 4),(5,.nm 5),(29,.nm 29)] rfl rfl ?_ ?_⟩
   ·simp only[hs]
    first|exact eN|refine eM ?_
   ·first|exact eN|refine eM ?_
  ·have hke:k=p.length:=by
    have:=Int.ofNat_le.1 AA
    omega
   subst hke
   obtain⟨ch0,hch0⟩:∃c,D8 p p.length=c:=⟨_,rfl⟩
   have hchl:=DG p p.length
   have hund:ch0++g.map (fun x:AE=>(x.1,Ap p.length x.2))=B0 p g:=by rw[←hch0];rfl
   generalize D8 p p.length=ch at *
   subst hch0
   refine AL (ι:={i:Nat//i≤g.length}) (fun i=>⟨[(0,.p Ek p),(3,.bp 3 [] 0),(4,.bp 4 [] 0),(5,.bp 5 [] 0),(7,.p (.int .i64) (i.1:Int))],[(3,.box 25 true [.p Fl g]),(4,.box 25 true [.raw (.slice none 0 0)]),(5,.box 25 true [.sr 29 J9 0 (ch++bB p.length g i.1).length]),(29,.arr 88 J9 (ch++bB p.length g i.1))]⟩) (fun i=>g.length-i.1) ⟨0,Nat.zero_le _⟩ (AC [(3,.nm 3),(4,.nm 4),(5,.nm 5),(29,.nm 29)] rfl rfl ?_ ?_) (fun i=>?_)
   ·have e0:ch++bB p.length g 0=ch:=by simp[bB]
    simp only[e0]
    first|exact eN|refine eM ?_
   ·first|exact eN|refine eM ?_
   ·obtain⟨i,hi⟩:=i
    have hsl:=o7 p.length g hi
    have hss:=fun h:i<g.length=>bC p.length g h
    simp only
    generalize hos:bB p.length g i=os at *
    repeat'(first|exact trivial|refine eS rfl ?_|refine AB ?_|refine rX [0,1,3,4,5,6,7,8,9,10,14,35,54] hc ?_ ?_|refine rC ?_ ?_<;>intro AA<;>try(cases AA;done))
    ·exact AA
    ·exact AA
    ·have hi2:i<g.length:=Int.ofNat_lt.1 AA
     have hrng:=GV hg i
     have hxl:(g.getD i (0,[])).2.length≤100000:=(hg.2 _ (AD g (0,[]) hi2)).1
     generalize hx:g.getD i (0,[])=x at *
     obtain⟨xt,xs⟩:=x
     simp only at hrng hxl hss ⊢
     refine AL (ι:={j:Nat//j≤xs.length}) (fun j=>⟨[(0,.p Ek p),(3,.bp 3 [] 0),(4,.bp 4 [] 0),(5,.bp 5 [] 0),(7,.p (.int .i64) (i:Int)),(8,.bp 8 [] 0),(9,.p CE xs),(10,.p (.int .i64) (j.1:Int))],[(3,.box 25 true [.p Fl g]),(4,.box 25 true [.raw (.slice none 0 0)]),(5,.box 25 true [.sr 29 J9 0 (ch++os).length]),(29,.arr 88 J9 (ch++os)),(8,.box 88 true [.p T3 xt,.sr 74 Aq 0 (Ap p.length (xs.take j.1)).length]),(74,.arr 108 Aq (Ap p.length (xs.take j.1)))]⟩) (fun j=>xs.length-j.1) ⟨0,Nat.zero_le _⟩ (AC [(3,.nm 3),(4,.nm 4),(5,.nm 5),(29,.nm 29),(8,.nm 8),(74,.nil)] rfl rfl ?_ ?_) (fun j=>?_)
     ·first|exact eN|refine eM ?_
      exact⟨rfl,rfl⟩
     ·first|exact eN|refine eM ?_
     ·obtain⟨j,hj⟩:=j
      have hal:(Ap p.length (xs.take j)).length=j:=by unfold Ap;rw[List.length_map,List.length_take];omega
      have has:=fun h:j<xs.length=>DE (fun a:Int×Int=>(a.1,a.2+(p.length:Int))) xs (0,0) h
      simp only
      repeat'(first|exact trivial|refine eS rfl ?_|refine AB ?_|refine rX [0,1,3,4,5,6,7,8,9,10,14,35,54] hc ?_ ?_|refine rC ?_ ?_<;>intro AA<;>try(cases AA;done))
      ·have hj2:j<xs.length:=Int.ofNat_lt.1 AA
       have hr:=hrng _ (AD xs (0,0) hj2)
       refine⟨AA,AA,⟨by omega,by omega⟩,?_⟩
       rw[hal]
       simp only[AP]
       omega
      ·exact eV
      ·have hj2:j<xs.length:=Int.ofNat_lt.1 AA
       have has2:Ap p.length (xs.take (j+1))=Ap p.length (xs.take j)++[((xs.getD j (0,0)).1,(xs.getD j (0,0)).2+(p.length:Int))]:=has hj2
       refine⟨⟨j+1,hj2⟩,by simp only;omega,AC [(3,.nm 3),(4,.nm 4),(5,.nm 5),(29,.nm 29),(8,.nm 8),(74,.nm 74)] rfl rfl ?_ ?_⟩
       ·simp only[has2]
        first|exact eN|refine eM ?_
       ·first|exact eN|refine eM ?_
      ·rw[hchl,hsl]
       simp only[AP]
       omega
      ·exact eV
      ·have hj2:xs.take j=xs:=List.take_of_length_le (Int.ofNat_le.1 AA)
       have hss2:=hss hi2
       rw[hj2]
       refine⟨⟨i+1,hi2⟩,by simp only;omega,AC [(3,.nm 3),(4,.nm 4),(5,.nm 5),(29,.nm 29)] rfl rfl ?_ ?_⟩
       ·simp only[hss2,←List.append_assoc]
        first|exact eN|refine eM ?_
       ·first|exact eN|refine eM ?_
    ·have hie:i=g.length:=by
      have:=Int.ofNat_le.1 AA
      omega
     subst hie
     rw[o6]at hos
     rw[hos]at hund
     exact AH hc [.cell 4 25] rfl (.inl rfl) (by simp) (by rw[←hund];first|exact eR|refine Aw ?_)
end
/- Functions of grammarlabref11: Apart, Merge, target. -/
section
def Az (n:Nat):List Int:=(List.range n).map fun(i:Nat)=>(i:Int)
theorem Cf (n:Nat):(Az n).length=n:=by simp[Az]
theorem Q9 (n:Nat):Az (n+1)=Az n++[(n:Int)]:=by simp[Az,List.range_succ]
theorem E6 {n k:Nat} (h:k<n):(Az n).getD k 0=(k:Int):=by
 unfold Az
 rw[List.getD_eq_getElem?_getD,List.getElem?_map,List.getElem?_range h]
 rfl
def YE:Af:={ ins:=[T3],pre:=fun(n,_)=>(0:Int)≤n∧n≤(100000:Int),out:=fun(n,_)=>[.own 3 T3 (Az (Int.toNat n))] }
theorem yI:Al Tryz.prog 66 YE:=by
 refine AU Tryz.func66 (by kernel_rfl) rfl Tryz.ntmps66 (by decide) (by kernel_rfl) (AG []) AJ ?_
 rintro w0 O0 ⟨n,u⟩ hc-⟨h0,h1⟩
 simp only[YE,AN]
 repeat'(first|exact trivial|refine eS rfl ?_|refine AB ?_|refine rX [0,2,3,4,7] hc ?_ ?_|refine rC ?_ ?_<;>intro AA<;>try(cases AA;done))
 refine AL (ι:={i:Nat//i≤n.toNat}) (fun i=>⟨[(0,.p T3 n),(3,.sr 13 T3 0 i.1),(4,.p (.int .i64) (i.1:Int))],[(13,.arr 3 T3 (Az i.1))]⟩) (fun i=>n.toNat-i.1) ⟨0,by omega⟩ (AC [(13,.nil)] rfl rfl ?_ ?_) (fun i=>?_)
 ·first|exact eN|refine eM ?_
  rfl
 ·first|exact eN|refine eM ?_
 ·obtain⟨i,hi⟩:=i
  repeat'(first|exact trivial|refine eS rfl ?_|refine AB ?_|refine rX [0,2,3,4,7] hc ?_ ?_|refine rC ?_ ?_<;>intro AA<;>try(cases AA;done))
  ·simp only[AP];exact eV
  ·exact eV
  ·have hlen:(Az i).take i=Az i:=List.take_of_length_le (by rw[Cf];exact Nat.le_refl i)
   refine⟨⟨i+1,by exact eV⟩,by simp only;exact eV,AC [(13,.nm 13)] rfl rfl ?_ ?_⟩
   ·simp only
    rw[hlen,Q9]
    first|exact eN|refine eM ?_
   ·first|exact eN|refine eM ?_
  ·have hn:i=n.toNat:=by exact eV
   subst hn
   exact SO hc (.inl rfl) (rv:=.tmp 2) rfl (by simp only[Kh,Iq,Ir,go_sem,Nat.reduceEqDiff,reduceCtorEq,Nat.reduceAdd,Nat.reduceSub,Nat.reduceMul,Nat.reduceLeDiff,Nat.reduceLT,Int.reduceLE,Int.reduceToNat,Int.reduceNeg,↓reduceIte];exact(Cf _).symm)
def Du (c:List Int) (m n:Int):Int:=if c.getD n.toNat 0<c.getD m.toNat 0 then c.getD n.toNat 0 else c.getD m.toNat 0
def CJ (c:List Int) (m n:Int):Int:=if c.getD m.toNat 0<c.getD n.toNat 0 then c.getD n.toNat 0 else c.getD m.toNat 0
def Gv (hi lo x:Int):Int:=if x=hi then lo else x
def B2 (c:List Int) (m n:Int):List Int:=c.map (Gv (CJ c m n) (Du c m n))
def YF:Af:={ ins:=[Ek,T3,T3],pre:=fun(c,m,n,_)=>List.length c≤100000∧((0:Int)≤m∧m<(List.length c:Int))∧((0:Int)≤n∧n<(List.length c:Int)),out:=fun(c,m,n,_)=>[.p Ek (B2 c m n)] }
theorem yJ:Al Tryz.prog 65 YF:=by
 refine AU Tryz.func65 (by kernel_rfl) rfl Tryz.ntmps65 (by decide) (by kernel_rfl) (AG []) AJ ?_
 rintro w0 O0 ⟨c,m,n,u⟩ hc-⟨hl,hm,hn⟩
 simp only[YF,AN]
 repeat'(first|exact trivial|refine eS rfl ?_|refine AB ?_|refine rX [0,1,2,6,7,8,9,10,35,43] hc ?_ ?_|refine rC ?_ ?_<;>intro AA<;>try(cases AA;done))
 ·exact⟨hm,hn⟩
 ·exact⟨hm,hn⟩
 ·simp only[AP];exact eV
 ·have hlo:(if List.getD c (Int.toNat n) 0<List.getD c (Int.toNat m) 0 then List.getD c (Int.toNat n) 0 else List.getD c (Int.toNat m) 0)=Du c m n:=rfl
  have hhi:(if List.getD c (Int.toNat m) 0<List.getD c (Int.toNat n) 0 then List.getD c (Int.toNat n) 0 else List.getD c (Int.toNat m) 0)=CJ c m n:=rfl
  rw[hlo,hhi]
  have hmg:B2 c m n=c.map (Gv (CJ c m n) (Du c m n)):=rfl
  generalize Du c m n=lo at *
  generalize CJ c m n=hi at *
  refine AL (ι:={i:Nat//i≤c.length}) (fun i=>⟨[(7,.p T3 lo),(8,.p T3 hi),(9,.sr 29 T3 0 c.length),(10,.p (.int .i64) (i.1:Int))],[(29,.arr 3 T3 ((c.take i.1).map (Gv hi lo)++c.drop i.1))]⟩) (fun i=>c.length-i.1) ⟨0,by omega⟩ (AC [(29,.nm 29)] rfl rfl ?_ ?_) (fun i=>?_)
  ·first|exact eN|refine eM ?_
  ·first|exact eN|refine eM ?_
  ·obtain⟨i,hi2⟩:=i
   have hget:i<c.length→((c.take i).map (Gv hi lo)++c.drop i).getD i 0=c.getD i 0:=fun h=>by
    rw[List.getD_eq_getElem?_getD,List.getElem?_append_right (by simp;omega)]
    simp only[List.length_map,List.length_take,Nat.min_eq_left hi2,Nat.sub_self,List.getElem?_drop,Nat.add_zero]
    rw[List.getD_eq_getElem?_getD]
   have hset:∀x,i<c.length→((c.take i).map (Gv hi lo)++c.drop i).set i x=(c.take i).map (Gv hi lo)++[x]++c.drop (i+1):=fun x h=>by
    rw[List.set_append_right _ _ (by simp;omega)]
    simp only[List.length_map,List.length_take,Nat.min_eq_left hi2,Nat.sub_self]
    rw[List.drop_eq_getElem_cons h,List.set_cons_zero,List.append_assoc];rfl
   have hnx:∀x,i<c.length→x=Gv hi lo (c.getD i 0)→(c.take i).map (Gv hi lo)++[x]++c.drop (i+1)=(c.take (i+1)).map (Gv hi lo)++c.drop (i+1):=fun x h e=>by
    rw[Ac c 0 h,List.map_append,e];rfl
   have hid:i<c.length→(c.take i).map (Gv hi lo)++c.drop i=(c.take i).map (Gv hi lo)++[c.getD i 0]++c.drop (i+1):=fun h=>by
    rw[List.drop_eq_getElem_cons h,List.append_assoc,List.getD_eq_getElem?_getD,List.getElem?_eq_getElem h];rfl
   repeat'(first|exact trivial|refine eS rfl ?_|refine AB ?_|refine rX [0,1,2,6,7,8,9,10,35,43] hc ?_ ?_|refine rC ?_ ?_<;>intro AA<;>try(cases AA;done))
   ·exact AA
   ·exact eV
   ·exact eV
   ·have hil:i<c.length:=by exact eV
    rw[hget hil]at AA
    refine⟨⟨i+1,by omega⟩,by simp only;omega,AC [(29,.nm 29)] rfl rfl ?_ ?_⟩
    ·simp only
     rw[←hnx lo hil (by unfold Gv;rw[if_pos AA]),←hset lo hil]
     first|exact eN|refine eM ?_
    ·first|exact eN|refine eM ?_
   ·exact eV
   ·have hil:i<c.length:=by exact eV
    rw[hget hil]at AA
    refine⟨⟨i+1,by omega⟩,by simp only;omega,AC [(29,.nm 29)] rfl rfl ?_ ?_⟩
    ·simp only
     rw[←hnx (c.getD i 0) hil (by unfold Gv;rw[if_neg AA]),←hid hil]
     first|exact eN|refine eM ?_
    ·first|exact eN|refine eM ?_
   ·have hil:c.length≤i:=by exact eV
    have hfin:(c.take i).map (Gv hi lo)++c.drop i=B2 c m n:=by
     rw[List.take_of_length_le hil,List.drop_eq_nil_of_le hil,List.append_nil,hmg]
    rw[hfin]
    have hml:(B2 c m n).take c.length=B2 c m n:=List.take_of_length_le (by rw[hmg,List.length_map];exact Nat.le_refl _)
    exact AH hc [.tmp 6] rfl (.inl rfl) (by simp) (by first|exact eR|refine Aw ?_;exact hml)
def Dv (l:List (Int×Int)) (e:Int):Int×Bool:=match l with
 | []=>(0,false)
 | a :: r=>if a.1=e then (a.2,true) else Dv r e
def YG:Af:={ ins:=[CE,T3],pre:=fun _=>True,out:=fun(l,e,_)=>[.p T3 (Dv l e).1,.p .bool (Dv l e).2],lend:=true }
theorem yK:Al Tryz.prog 104 YG:=by
 refine AU Tryz.func104 (by kernel_rfl) rfl Tryz.ntmps104 (by decide) (by kernel_rfl) (AG []) AJ ?_
 rintro w0 O0 ⟨l,n,u⟩ hc ⟨⟨hl,-⟩,-⟩ -
 simp only[AP]at hl
 simp only[YG,AN]
 repeat'(first|exact trivial|refine eS rfl ?_|refine AB ?_|refine rX [0,1,4,5,6,10,19] hc ?_ ?_|refine rC ?_ ?_<;>intro AA<;>try(cases AA;done))
 refine AL (ι:={k:Nat//k≤l.length∧Dv (l.drop k) n=Dv l n}) (fun k=>⟨[(0,.p CE l),(1,.p T3 n),(6,.p (.int .i64) (k.1:Int))],[]⟩) (fun k=>l.length-k.1) ⟨0,by simp⟩ (AC [] rfl rfl ?_ ?_) (fun k=>?_)
 ·first|exact eN|refine eM ?_
 ·first|exact eN|refine eM ?_
 ·obtain⟨k,hk,hg⟩:=k
  repeat'(first|exact trivial|refine eS rfl ?_|refine AB ?_|refine rX [0,1,4,5,6,10,19] hc ?_ ?_|refine rC ?_ ?_<;>intro AA<;>try(cases AA;done))
  ·exact AA
  ·exact eV
  ·have hkl:k<l.length:=by exact eV
   have hd:l.drop k=l.getD k (0,0) :: l.drop (k+1):=by
    rw[List.drop_eq_getElem_cons hkl,List.getD_eq_getElem?_getD,List.getElem?_eq_getElem hkl];rfl
   rw[hd]at hg
   have hg:(if (l.getD k (0,0)).1=n then ((l.getD k (0,0)).2,true) else Dv (l.drop (k+1)) n)=Dv l n:=hg
   rw[if_pos AA]at hg
   exact AH hc [.tmp 4,.tmp 5] rfl (.inl rfl) (by simp) (by rw[←hg];first|exact eR|refine Aw ?_)
  ·exact eV
  ·have hkl:k<l.length:=by exact eV
   have hd:l.drop k=l.getD k (0,0) :: l.drop (k+1):=by
    rw[List.drop_eq_getElem_cons hkl,List.getD_eq_getElem?_getD,List.getElem?_eq_getElem hkl];rfl
   rw[hd]at hg
   have hg:(if (l.getD k (0,0)).1=n then ((l.getD k (0,0)).2,true) else Dv (l.drop (k+1)) n)=Dv l n:=hg
   rw[if_neg AA]at hg
   refine⟨⟨k+1,by omega,hg⟩,by simp only;omega,AC [] rfl rfl ?_ ?_⟩
   ·first|exact eN|refine eM ?_
   ·first|exact eN|refine eM ?_
  ·have hk:l.drop k=[]:=List.drop_eq_nil_of_le (by exact eV)
   rw[hk]at hg
   have hg:(0,false)=Dv l n:=hg
   exact AH hc [.tmp 4,.tmp 5] rfl (.inl rfl) (by simp) (by rw[←hg];first|exact eR|refine Aw ?_)
end
end Go.Proofs.YtebfihindnhccaaGreat.Fw
