/- Contracts of the program's and the reference's functions, and the plain laws of what they compute: C31 C32 C33 C34 C35 D1 D4 N6 R07a R07b R07c R07d R07e Sorted R07f R07g R07h R15c P8 G1 G3 G2 G4 G5 G6 P1 P9 R08a P3 P4 P5 P2 P7 W1 W2 W3 W4 D2 D3. -/
/- Functions of grammarlabref05: Features. -/
import Derived.Test.YtebfihindnhccaaGreatIYA
import Derived.Test.YtebfihindnhccaaGreatIZJ
import Derived.Test.YtebfihindnhccaaGreatIZI
set_option linter.unusedVariables false
set_option linter.unusedSimpArgs false
namespace Go.Proofs.YtebfihindnhccaaGreat.Fw
open Go
attribute [local irreducible] Ev
attribute [local go_sem] Yx AN List.toList_toArray Bi evG evK Uc EU JT GK FY Fq Ni J4 B4 DB Le CK CZ frz cD GF DA A5 FL Bg AV.frz AV.frzs AV.drp AV.drps AV.names AV.namess aq GH J3 JL RG IE BS BV Ik Ef Ho Eg Hq Hp Hr R5 Na Gb JM FO EA R6 O9 tS Il Hs KS Ey EE RH CP EF El PA PB KT II JN Cn Cg E7 DZ G9 DX Em DY EH FQ CK CX RF O8 Mm GB IH IG KR MT Nf KV KY KW JQ QT KX JR Wn Nh Ng AV.trn AV.trns Dy CO Obj.trn I0 ZI Cp DK Co EI CY Eo Av lk Gm GG G0 zN cC Ud cF QR pH pI zR AV.cells Bx Ii NZ JP Nc CF MR Ty.cell1 Hn Ee DW Fm Ml Ex JK KQ QP GE Ga MM RE R3 KO JJ Wk Ya QQ MS Cl Ij RV.flat Ty.flat Ty.size St.add upd Ua BT Value.oneCell' KJ Ty.dflt Hm Ny HG OH List.take_succ_cons List.take_zero List.length_cons Y7 Y8 OG Ix Kn Gy Iy uP FZ Lo Lp Lq Lr PK PM Ls Hw SQ Option.map_some Option.map_none Option.bind_some Option.getD_some Option.getD_none Option.isNone_none Option.isNone_some Bool.and_true Bool.true_and Bool.and_false Bool.false_and Bool.not_true Bool.not_false if_true if_false List.length_cons List.length_nil and_true true_and and_self List.all_cons List.all_nil List.append_nil List.nil_append List.cons_append List.getElem?_cons_zero List.getElem?_cons_succ List.getElem?_nil List.map_cons List.map_nil List.set_cons_zero List.set_cons_succ List.isEmpty_nil List.isEmpty_cons decide_true decide_false beq_self_eq_true bne_self_eq_false Nat.zero_add Nat.add_zero Nat.sub_zero Int.toNat_natCast Int.toNat_zero Int.toNat_one List.take_length List.length_append List.length_singleton true_or or_true or_self false_or or_false Ty.agg.injEq Ty.slice.injEq Ty.prod.injEq Ty.int.injEq Option.some.injEq beq_iff_eq Kl evMG evMQ uS HI Kj Bm Iw GL N9 Iu HH Hx Ja J8 Mv MZ Mw RL Kk OB OC Iv Aa Ak Op.operands Call.operands List.filterMap_cons List.filterMap_nil List.append_eq Bool.cond_false_right Bool.cond_true_left cond_true cond_false implies_true decide_eq_true_eq beq_true beq_false Bool.or_true Bool.or_false Bool.true_or Bool.false_or Option.isSome_some FM Lf Ep G7 Wm Nb FP Fy Fx Ht G8 JO KU Ue cE Ub inB JS QQX GC Im BG Y9 List.drop_zero Db HJ XI B9 Je B7 AV.fgt AV.fgts Obj.fgt Au Aj Aa Ct Hk BF GM List.any_cons List.any_nil dC ZC XJ ZD Kp PR qs List.flatMap_cons List.flatMap_nil List.cons_append tn XM I1 List.take_succ_cons List.drop_succ_cons XQ HN Bh gX Lx Bv CG Ae FX JZ BD FW F2 HF Qj
attribute [local go_sem] ty1 ty2 ty3 ty4 ty5 ty9 A0p A0q A0r A0s A0t A0u A0v A0w A0x A0y A0z A0A A0B A0C A0D A0E A0F A0G A0H A0I A0J A0K A0L A0M A0N A0O A0P A0Q A0R A0S A0T A0U A0V A0W A0X A0Y A0Z A10 A11 A12 A13 A14 A15 A16 A17 A18 A19 A1a A1b A1c A1d A1e A1f A1g A1h A1i A1j A1k A1l A1m A1n A1o A1p A1q A1r A1s A1t A1u A1v A1w A1x A1y A1z A1A A1B A1C A1D A1E hD hH hZ iA iB iC iD iE iG iH iI iJ iK iL iM iO iP iQ iR iT iU iV iW iX iY iZ i3 i4 i5 i6 i7 i8 i9 jA jB jC jD jE jF jG jH jI jJ jK jL jM jN jO jP jQ jR jS jT jU jV jW jX jY jZ j3 j4 j5 j6 j7 j8 j9 kA kB kC kD kE kF kG kH kI kJ kK kL kM kN kO kP kQ kR kS kT kU kV kW kX kY kZ k4 k5 k6 k7 k8 k9 lA lB lC lD lE lF lG lH lI lJ lK lL lM lN lO lQ lR lS lU lV lW lX lY lZ l5 l6 l7 l8 l9 mA mB mC mD mE mF mG mH mI mJ mK mL mM mN mO mP mQ mR mS mT mU mV mW mX mY mZ m5 m6 m7 m8 m9 nA nB nC nD nE nF nG nH nI nJ nK
set_option maxRecDepth 100000
set_option maxHeartbeats 4000000
section
attribute [local go_sem] L7 IX K0 Ph L2
abbrev w3:=ByteArray×Int
theorem CT {d:List AK} (h:BN d=0):(Bt d).2=0∧(Dg d).length≤64∧K5 d=0:=by
 unfold BN at h
 split at h
 ·rename_i h1;exact absurd h h1
 ·rename_i h1
  split at h
  ·cases h
  ·rename_i h2
   split at h
   ·rename_i h3;exact absurd h h3
   ·rename_i h3
    exact⟨Classical.byContradiction h1,by omega,Classical.byContradiction h3⟩
def TT (d:List AK) (s:ByteArray):w3:=(s,DJ (A0 d) (F8 d s).1)
def Ea (d:List AK):List w3×Int:=if BN d≠0 then ([],BN d) else ((Dg d).map (TT d),0)
theorem DE {α β:Type} (f:α→β) (l:List α) (d:α) {k:Nat} (h:k<l.length):(l.take (k+1)).map f=(l.take k).map f++[f (l.getD k d)]:=by
 rw[Ac l d h,List.map_append]
 rfl
theorem Xk {α β:Type} (f:α→β) (l:List α) {k:Nat} (h:k≤l.length):((l.take k).map f).length=k:=by simp[h]
def L8:Af:={ ins:=[Ec],pre:=fun _=>True,out:=fun(d,_)=>[.p ZP (Ea d).1,.p ZO (Ea d).2] }
theorem Z1:Al Tryz.prog 99 L8:=by
 refine AU Tryz.func99 (by kernel_rfl) rfl Tryz.ntmps99 (by decide) (by kernel_rfl) (AG [(129,L7),(97,IX),(130,K0),(140,Ph),(141,L2)]) (AF Vv (AF Oe (AF TA (AF Zw (AF Vl AJ))))) ?_
 rintro w0 O0 ⟨d,u⟩ hc - -
 simp only[L8,AN]
 repeat'(first|exact trivial|refine eS rfl ?_|refine AB ?_|refine rX [0,2,3,4,5,7,8,9,10,15,27] hc ?_ ?_|refine rC ?_ ?_<;>intro AA<;>try(cases AA;done))
 ·have h1:Ea d=([],BN d):=by unfold Ea;rw[if_pos AA]
  exact AH hc [.tmp 2,.tmp 3] rfl (.inl rfl) (by simp) (by rw[h1];first|exact eR|refine Aw ?_)
 ·have h5:BN d=0:=by simpa using AA
  obtain⟨hz,-,-⟩:=CT h5
  obtain⟨h3,-,-⟩:=Bc hz
  exact⟨(A7 h3).2.1,fun x hx=>(Jo h3 x hx).2⟩
 ·have h5:BN d=0:=by simpa using AA
  obtain⟨hz,hf64,-⟩:=CT h5
  obtain⟨h3,-,hl⟩:=Bc hz
  obtain⟨hsup,hd,-⟩:=A7 h3
  have hr:Ea d=((Dg d).map (TT d),0):=by unfold Ea;rw[if_neg (by rw[h5];simp)]
  rw[hl]
  generalize Dg d=f at *
  refine AL (ι:={i:Nat//i≤f.length}) (fun i=>⟨[(0,.p Ec d),(5,.p I2 (A0 d)),(7,.p Bo f),(8,.sr 49 vV 0 ((f.take i.1).map (TT d)).length),(9,.p (.int .i64) (i.1:Int))],[(49,.arr 201 vV ((f.take i.1).map (TT d)))]⟩) (fun i=>f.length-i.1) ⟨0,Nat.zero_le _⟩ (AC [(49,.nil)] rfl rfl ?_ ?_) (fun i=>?_)
  ·first|exact eN|refine eM ?_
  ·first|exact eN|refine eM ?_
  ·obtain⟨i,hi⟩:=i
   have hlen:=Xk (TT d) f hi
   have hs:=fun h:i<f.length=>DE (TT d) f ByteArray.empty h
   simp only
   repeat'(first|exact trivial|refine eS rfl ?_|refine AB ?_|refine rX [0,2,3,4,5,7,8,9,10,15,27] hc ?_ ?_|refine rC ?_ ?_<;>intro AA<;>try(cases AA;done))
   ·exact⟨AA,hsup,hd⟩
   ·refine⟨AA,?_⟩
    rw[hlen]
    simp only[AP]
    omega
   ·omega
   ·have hi2:i<f.length:=Int.ofNat_lt.1 AA
    have e:=hs hi2
    refine⟨⟨i+1,hi2⟩,by simp only;omega,AC [(49,.nm 49)] rfl rfl ?_ ?_⟩
    ·simp only[e]
     first|exact eN|refine eM ?_
     rfl
    ·simp only[e]
     first|exact eN|refine eM ?_
   ·have hi2:f.take i=f:=List.take_of_length_le (Int.ofNat_le.1 AA)
    rw[hi2]
    refine Gr [49] ?_
    exact AH hc [.tmp 2,.tmp 3] rfl (.inl rfl) (by simp) (by rw[hr];first|exact eR|refine Aw ?_)
end
/- Functions of grammarlabref05: Values. -/
section
attribute [local go_sem] L7 IX K0 rO Xb
def Xl (d:List AK) (l:List AW) (f:List ByteArray) (t:Nat) (n:Nat):List (Int×Int) :=
 ((List.range n).filter fun(i:Nat)=>(TL d l (t:Int) (f.getD i ByteArray.empty)).2).map fun(i:Nat)=>((i:Int),Xa l (TL d l (t:Int) (f.getD i ByteArray.empty)).1)
def K7 (d:List AK) (l:List AW) (f:List ByteArray) (n:Nat):List (List (Int×Int)):=(List.range n).map fun t=>Xl d l f t f.length
def BO (d:List AK):List (List (Int×Int))×Int:=if BN d≠0 then ([],BN d) else (K7 d (A0 d) (Dg d) (A0 d).length,0)
theorem rQ (d:List AK) (l:List AW) (f:List ByteArray) (t n:Nat):Xl d l f t (n+1)=Xl d l f t n++if (TL d l (t:Int) (f.getD n ByteArray.empty)).2=true then [((n:Int),Xa l (TL d l (t:Int) (f.getD n ByteArray.empty)).1)] else []:=by
 unfold Xl
 rw[List.range_succ,List.filter_append,List.map_append]
 congr 1
 rw[List.filter_cons,List.filter_nil]
 split<;>rfl
theorem w4 (d:List AK) (l:List AW) (f:List ByteArray) (t n:Nat):(Xl d l f t n).length≤n:=by
 unfold Xl
 rw[List.length_map]
 exact Nat.le_trans (List.length_filter_le _ _) (by simp)
theorem d9 (d:List AK) (l:List AW) (f:List ByteArray) (n:Nat):K7 d l f (n+1)=K7 d l f n++[Xl d l f n f.length]:=by simp[K7,List.range_succ]
theorem Vx (d:List AK) (l:List AW) (f:List ByteArray) (n:Nat):(K7 d l f n).length=n:=by simp[K7]
theorem w5 {d:List AK} {l:List AW} (h:∀x∈l,x.2.length≤64) (t:Int) (s:ByteArray):(TL d l t s).1.length≤64:=by
 unfold TL
 refine TM t s d ?_
 rw[List.getD_eq_getElem?_getD]
 cases hh:l[0]? with
 | none=>simp
 | some x=>exact h x (List.mem_of_getElem? hh)
def Oh:Af:={ ins:=[Ec],pre:=fun _=>True,out:=fun(d,_)=>[.p A0o (BO d).1,.p ZO (BO d).2] }
theorem eB:Al Tryz.prog 96 Oh:=by
 refine AU Tryz.func96 (by kernel_rfl) rfl Tryz.ntmps96 (by decide) (by kernel_rfl) (AG [(129,L7),(97,IX),(130,K0),(131,rO),(132,Xb)]) (AF Vv (AF Oe (AF TA (AF wX (AF wL AJ))))) ?_
 rintro w0 O0 ⟨d,u⟩ hc - -
 simp only[Oh,AN]
 repeat'(first|exact trivial|refine eS rfl ?_|refine AB ?_|refine rX [0,2,3,4,5,7,8,9,10,11,12,13,17,29,35,49] hc ?_ ?_|refine rC ?_ ?_<;>intro AA<;>try(cases AA;done))
 ·have h1:BO d=([],BN d):=by unfold BO;rw[if_pos AA]
  exact AH hc [.tmp 2,.tmp 3] rfl (.inl rfl) (by simp) (by rw[h1];first|exact eR|refine Aw ?_)
 ·have h5:BN d=0:=by simpa using AA
  obtain⟨hz,-,-⟩:=CT h5
  obtain⟨h3,-,-⟩:=Bc hz
  exact⟨(A7 h3).2.1,fun x hx=>(Jo h3 x hx).2⟩
 ·have h5:BN d=0:=by simpa using AA
  obtain⟨hz,hf64,hdz⟩:=CT h5
  obtain⟨h3,hlen,hl⟩:=Bc hz
  obtain⟨hsup,hd,-⟩:=A7 h3
  have hr:BO d=(K7 d (A0 d) (Dg d) (A0 d).length,0):=by unfold BO;rw[if_neg (by rw[h5];simp)]
  have hnr:=n4 h3 hdz
  have hwid:=NG h3
  have hll:(A0 d).length≤256:=by rw[HZ];exact hlen
  rw[hl]
  generalize A0 d=l at *
  generalize Dg d=f at *
  have hiw:=fun t s=>w5 (d:=d) hwid t s
  refine AL (ι:={t:Nat//t≤l.length}) (fun t=>⟨[(0,.p Ec d),(5,.p I2 l),(7,.p Bo f),(8,.sr 61 XS 0 (K7 d l f t.1).length),(9,.p (.int .i64) (t.1:Int))],[(61,.arr 146 XS (K7 d l f t.1))]⟩) (fun t=>l.length-t.1) ⟨0,Nat.zero_le _⟩ (AC [(61,.nil)] rfl rfl ?_ ?_) (fun t=>?_)
  ·first|exact eN|refine eM ?_
   rfl
  ·first|exact eN|refine eM ?_
   rfl
  ·obtain⟨t,ht⟩:=t
   have hlen:=Vx d l f t
   have hs:=d9 d l f t
   simp only
   repeat'(first|exact trivial|refine eS rfl ?_|refine AB ?_|refine rX [0,2,3,4,5,7,8,9,10,11,12,13,17,29,35,49] hc ?_ ?_|refine rC ?_ ?_<;>intro AA<;>try(cases AA;done))
   ·refine AL (ι:={i:Nat//i≤f.length}) (fun i=>⟨[(0,.p Ec d),(5,.p I2 l),(7,.p Bo f),(8,.sr 61 XS 0 (K7 d l f t).length),(9,.p (.int .i64) (t:Int)),(10,.sr 57 vU 0 (Xl d l f t i.1).length),(11,.p (.int .i64) (i.1:Int))],[(61,.arr 146 XS (K7 d l f t)),(57,.arr 190 vU (Xl d l f t i.1))]⟩) (fun i=>f.length-i.1) ⟨0,Nat.zero_le _⟩ (AC [(61,.nm 61),(57,.nil)] rfl rfl ?_ ?_) (fun i=>?_)
    ·first|exact eN|refine eM ?_
     rfl
    ·first|exact eN|refine eM ?_
     rfl
    ·obtain⟨i,hi⟩:=i
     have hol:=w4 d l f t i
     have hos:=rQ d l f t i
     simp only
     repeat'(first|exact trivial|refine eS rfl ?_|refine AB ?_|refine rX [0,2,3,4,5,7,8,9,10,11,12,13,17,29,35,49] hc ?_ ?_|refine rC ?_ ?_<;>intro AA<;>try(cases AA;done))
     ·exact⟨AA,hnr,by assumption,hll,hwid⟩
     ·refine⟨Nat.le_trans (hiw _ _) (by decide),?_⟩
      simp only[AP]
      omega
     ·omega
     ·have hi2:i<f.length:=Int.ofNat_lt.1 (by assumption)
      rw[if_pos AA]at hos
      refine⟨⟨i+1,hi2⟩,by simp only;omega,AC [(61,.nm 61),(57,.nm 57)] rfl rfl ?_ ?_⟩
      ·simp only[hos]
       first|exact eN|refine eM ?_
      ·simp only[hos]
       first|exact eN|refine eM ?_
     ·omega
     ·have hi2:i<f.length:=Int.ofNat_lt.1 (by assumption)
      rw[if_neg (by rw[AA];simp),List.append_nil]at hos
      refine⟨⟨i+1,hi2⟩,by simp only;omega,AC [(61,.nm 61),(57,.nm 57)] rfl rfl ?_ ?_⟩
      ·simp only[hos]
       first|exact eN|refine eM ?_
      ·simp only[hos]
       first|exact eN|refine eM ?_
     ·rw[hlen]
      simp only[AP]
      omega
     ·omega
     ·have ht2:t<l.length:=Int.ofNat_lt.1 (by assumption)
      have hi2:i=f.length:=by omega
      subst hi2
      refine⟨⟨t+1,ht2⟩,by simp only;omega,AC [(61,.nm 61)] rfl rfl ?_ ?_⟩
      ·simp only[hs]
       first|exact eN|refine eM ?_
      ·simp only[hs]
       first|exact eN|refine eM ?_
   ·have ht2:t=l.length:=by omega
    subst ht2
    refine Gr [61] ?_
    exact AH hc [.tmp 2,.tmp 3] rfl (.inl rfl) (by simp) (by rw[hr];first|exact eR|refine Aw ?_)
end
/- Functions of grammarlabref06: decl. -/
section
attribute [local go_sem] cs0
def KC (l:List ByteArray) (n:Nat):List FV:=(List.range n).map fun k=>(l.getD (2*k) ByteArray.empty,l.getD (2*k+1) ByteArray.empty)
theorem TU (l:List ByteArray) (n:Nat):KC l (n+1)=KC l n++[(l.getD (2*n) ByteArray.empty,l.getD (2*n+1) ByteArray.empty)]:=by simp[KC,List.range_succ]
theorem Vy (l:List ByteArray) (n:Nat):(KC l n).length=n:=by simp[KC]
def Xm (s:ByteArray):List ByteArray:=if Ar s ByteArray.empty=true then [] else [s]
def Ft (n s:ByteArray) (l:List ByteArray):AK:=(n,Xm s,KC l (l.length / 2))
def n6:Af:={ ins:=[T9,T9,Bo],pre:=fun(_,_,l,_)=>List.length l≤1000,out:=fun(n,s,l,_)=>[.p qP (Ft n s l)] }
theorem A1Y:Al Tryz.prog 100 n6:=by
 refine AU Tryz.func100 (by kernel_rfl) rfl Tryz.ntmps100 (by decide) (by kernel_rfl) (AG []) AJ ?_
 rintro w0 O0 ⟨n,s,l,u⟩ hc-hl
 have hl:l.length≤1000:=hl
 simp only[n6,AN]
 repeat'(first|exact trivial|refine eS rfl ?_|refine AB ?_|refine rX [0,1,2,6,7,8,12,20] hc ?_ ?_|refine rC ?_ ?_<;>intro AA<;>try(cases AA;done))
 ·have hcd:=AA
  refine Gr [14] ?_
  refine AL (ι:={k:Nat//2*k≤l.length}) (fun k=>⟨[(2,.p Bo l),(6,.bp 6 [] 0),(7,.bp 7 [] 0),(8,.p (.int .i64) ((2*k.1:Nat):Int))],[(6,.box 154 true [.p T9 ByteArray.empty,.raw (.slice none 0 0),.raw (.slice none 0 0)]),(7,.box 154 true [.p T9 n,.p Bo [s],.sr 36 dJ 0 (KC l k.1).length]),(36,.arr 157 dJ (KC l k.1))]⟩) (fun k=>l.length-2*k.1) ⟨0,Nat.zero_le _⟩ (AC [(6,.nm 6),(7,.nm 7),(36,.nil)] rfl rfl ?_ ?_) (fun k=>?_)
  ·first|exact eN|refine eM ?_
   exact⟨rfl,rfl⟩
  ·first|exact eN|refine eM ?_
  ·obtain⟨k,hk⟩:=k
   have hpl:=Vy l k
   have hps:=TU l k
   simp only
   repeat'(first|exact trivial|refine eS rfl ?_|refine AB ?_|refine rX [0,1,2,6,7,8,12,20] hc ?_ ?_|refine rC ?_ ?_<;>intro AA<;>try(cases AA;done))
   ·exact eV
   ·refine⟨by exact eV,⟨by exact eV,by exact eV⟩,⟨by exact eV,by exact eV⟩,?_⟩
    rw[hpl]
    simp only[AP]
    exact eV
   ·exact eV
   ·have hk2:2*k+1<l.length:=by exact eV
    have e1:((2*k:Nat):Int)+1=((2*k+1:Nat):Int):=by omega
    refine⟨⟨k+1,by omega⟩,by simp only;omega,AC [(6,.nm 6),(7,.nm 7),(36,.nm 36)] rfl rfl ?_ ?_⟩
    ·simp only[hps]
     first|exact eN|refine eM ?_
     rw[e1]
     rfl
    ·simp only[hps]
     first|exact eN|refine eM ?_
     show ((2*k:Nat):Int)+2=((2*(k+1):Nat):Int)
     omega
   ·have hk2:k=l.length / 2:=by exact eV
    refine Gr [36] ?_
    have hr:Ft n s l=(n,[s],KC l k):=by
     unfold Ft Xm
     rw[←hk2,if_neg (by rw[show Ar s ByteArray.empty=false from hcd];simp)]
    exact AH hc [.cell 6 154] rfl (.inl rfl) (by simp) (by rw[hr];first|exact eR|refine Aw ?_)
 ·have hcd:=AA
  refine AL (ι:={k:Nat//2*k≤l.length}) (fun k=>⟨[(2,.p Bo l),(6,.bp 6 [] 0),(7,.bp 7 [] 0),(8,.p (.int .i64) ((2*k.1:Nat):Int))],[(6,.box 154 true [.p T9 ByteArray.empty,.raw (.slice none 0 0),.raw (.slice none 0 0)]),(7,.box 154 true [.p T9 n,.p Bo ([]:List ByteArray),.sr 36 dJ 0 (KC l k.1).length]),(36,.arr 157 dJ (KC l k.1))]⟩) (fun k=>l.length-2*k.1) ⟨0,Nat.zero_le _⟩ (AC [(6,.nm 6),(7,.nm 7),(36,.nil)] rfl rfl ?_ ?_) (fun k=>?_)
  ·first|exact eN|refine eM ?_
   exact⟨rfl,rfl⟩
  ·first|exact eN|refine eM ?_
  ·obtain⟨k,hk⟩:=k
   have hpl:=Vy l k
   have hps:=TU l k
   simp only
   repeat'(first|exact trivial|refine eS rfl ?_|refine AB ?_|refine rX [0,1,2,6,7,8,12,20] hc ?_ ?_|refine rC ?_ ?_<;>intro AA<;>try(cases AA;done))
   ·exact eV
   ·refine⟨by exact eV,⟨by exact eV,by exact eV⟩,⟨by exact eV,by exact eV⟩,?_⟩
    rw[hpl]
    simp only[AP]
    exact eV
   ·exact eV
   ·have hk2:2*k+1<l.length:=by exact eV
    have e1:((2*k:Nat):Int)+1=((2*k+1:Nat):Int):=by omega
    refine⟨⟨k+1,by omega⟩,by simp only;omega,AC [(6,.nm 6),(7,.nm 7),(36,.nm 36)] rfl rfl ?_ ?_⟩
    ·simp only[hps]
     first|exact eN|refine eM ?_
     rw[e1]
     rfl
    ·simp only[hps]
     first|exact eN|refine eM ?_
     show ((2*k:Nat):Int)+2=((2*(k+1):Nat):Int)
     omega
   ·have hk2:k=l.length / 2:=by exact eV
    refine Gr [36] ?_
    have hr:Ft n s l=(n,([]:List ByteArray),KC l k):=by
     unfold Ft Xm
     rw[←hk2,if_pos (show Ar s ByteArray.empty=true from hcd)]
    exact AH hc [.cell 6 154] rfl (.inl rfl) (by simp) (by rw[hr];first|exact eR|refine Aw ?_)
end
/- Functions of grammarlabref06: Prelude. -/
section
attribute [local go_sem] n6 cs0 cs1 cs2 cs3 cs4 cs5 cs6 cs7 cs8
def Ha:List AK:=[
 Ft { data:=#[116,111,112] } { data:=#[] } [],
 Ft { data:=#[108,105,115,116] } { data:=#[116,111,112] } [],
 Ft { data:=#[99,111,110,115] } { data:=#[108,105,115,116] } [{ data:=#[70,73,82,83,84] },{ data:=#[116,111,112] },{ data:=#[82,69,83,84] },{ data:=#[108,105,115,116] }],
 Ft { data:=#[110,117,108,108] } { data:=#[108,105,115,116] } [],
 Ft { data:=#[100,108,105,115,116] } { data:=#[116,111,112] } [{ data:=#[76,73,83,84] },{ data:=#[108,105,115,116] },{ data:=#[76,65,83,84] },{ data:=#[108,105,115,116] }],
 Ft { data:=#[105,110,100,101,120] } { data:=#[116,111,112] } [],
 Ft { data:=#[104,97,110,100,108,101] } { data:=#[105,110,100,101,120] } [],
 Ft { data:=#[101,118,101,110,116] } { data:=#[105,110,100,101,120] } [],
 Ft { data:=#[101,110,116,105,116,121] } { data:=#[105,110,100,101,120] } [],
 Ft { data:=#[114,101,108] } { data:=#[116,111,112] } [{ data:=#[76,65,66,69,76] },{ data:=#[104,97,110,100,108,101] }],
 Ft { data:=#[113,101,113] } { data:=#[116,111,112] } [{ data:=#[72,73,71,72] },{ data:=#[104,97,110,100,108,101] },{ data:=#[76,79,87] },{ data:=#[104,97,110,100,108,101] }],
 Ft { data:=#[115,101,109] } { data:=#[116,111,112] } [{ data:=#[84,79,80] },{ data:=#[104,97,110,100,108,101] },{ data:=#[73,78,68,69,88] },{ data:=#[105,110,100,101,120] },{ data:=#[82,69,76,83] },{ data:=#[100,108,105,115,116] },{ data:=#[67,79,78,83] },{ data:=#[100,108,105,115,116] }],
 Ft { data:=#[115,105,103,110] } { data:=#[116,111,112] } [{ data:=#[83,69,77] },{ data:=#[115,101,109] },{ data:=#[65,82,71,83] },{ data:=#[108,105,115,116] }]]
def Oi:Af:={ ins:=[],pre:=fun _=>True,out:=fun _=>[.p Ec Ha] }
theorem eC:Al Tryz.prog 53 Oi:=by
 refine AU Tryz.func53 (by kernel_rfl) rfl Tryz.ntmps53 (by decide) (by kernel_rfl) (AG [(100,n6)] [3,6,12,14,16,18,20]) (AF A1Y AJ) ?_
 rintro w0 O0 u hc - -
 simp only[Oi,AN]
 repeat'(first|exact trivial|refine eS rfl ?_|refine AB ?_|refine rX [0] hc ?_ ?_|refine rC ?_ ?_<;>intro AA<;>try(cases AA;done))
 exact AH hc [.tmp 0] rfl (.inl rfl) (by simp) (by unfold Ha;first|exact eR|refine Aw ?_)
end
/- Functions of grammarlabref06: Compile. -/
section
attribute [local go_sem] Oh IX nZ L8
abbrev Hb:=ByteArray×List Int×List Int×List (Int×Int)
abbrev AM:=List Hb×List w3
def Es (l:List AW) (v:List (List (Int×Int))) (n:Nat):List Hb:=(List.range n).map fun i=>((l.getD i c0).1,(l.getD i c0).2,Zv l (i:Int),v.getD i [])
theorem eD (l:List AW) (v:List (List (Int×Int))) (n:Nat):Es l v (n+1)=Es l v n++[((l.getD n c0).1,(l.getD n c0).2,Zv l (n:Int),v.getD n [])]:=by simp[Es,List.range_succ]
theorem MA (l:List AW) (v:List (List (Int×Int))) (n:Nat):(Es l v n).length=n:=by simp[Es]
def GS (d:List AK):AM:=(Es (A0 d) (BO d).1 (A0 d).length,(Ea d).1)
def AZ (d:List AK):AM×Int:=if (BO d).2≠0 then (([],[]),(BO d).2) else (GS d,0)
def I5:Af:={ ins:=[Ec],pre:=fun _=>True,out:=fun(d,_)=>[.p GD (AZ d).1,.p ZO (AZ d).2] }
theorem TV:Al Tryz.prog 52 I5:=by
 refine AU Tryz.func52 (by kernel_rfl) rfl Tryz.ntmps52 (by decide) (by kernel_rfl) (AG [(96,Oh),(97,IX),(98,nZ),(99,L8)]) (AF eB (AF Oe (AF A1T (AF Z1 AJ)))) ?_
 rintro w0 O0 ⟨d,u⟩ hc - -
 simp only[I5,AN]
 repeat'(first|exact trivial|refine eS rfl ?_|refine AB ?_|refine rX [0,2,3,4,5,6,8,9,10,18,29] hc ?_ ?_|refine rC ?_ ?_<;>intro AA<;>try(cases AA;done))
 ·have h1:AZ d=(([],[]),(BO d).2):=by unfold AZ;rw[if_pos AA]
  exact AH hc [.cell 2 29,.tmp 3] rfl (.inl rfl) (by simp) (by rw[h1];first|exact eR|refine Aw ?_)
 ·have hv:(BO d).2=0:=by simpa using AA
  have h5:BN d=0:=by
   unfold BO at hv
   split at hv
   ·rename_i h;exact absurd hv h
   ·rename_i h;exact Classical.byContradiction h
  obtain⟨hz,hf64,hdz⟩:=CT h5
  obtain⟨h3,hlen,hl⟩:=Bc hz
  have hr:AZ d=(GS d,0):=by unfold AZ;rw[if_neg (by rw[hv];simp)]
  have hvl:(BO d).1.length=(A0 d).length:=by
   unfold BO
   rw[if_neg (by rw[h5];simp)]
   exact Vx _ _ _ _
  have hwid:=NG h3
  have hll:(A0 d).length≤256:=by rw[HZ];exact hlen
  unfold GS at hr
  rw[hl]
  generalize A0 d=l at *
  generalize (BO d).1=v at *
  refine AL (ι:={n:Nat//n≤l.length}) (fun n=>⟨[(0,.p Ec d),(2,.bp 2 [] 0),(4,.p A0o v),(6,.p I2 l),(8,.bp 8 [] 0),(9,.p (.int .i64) (n.1:Int))],[(2,.box 29 true [.raw (.slice none 0 0),.raw (.slice none 0 0)]),(8,.box 29 true [.sr 53 qO 0 (Es l v n.1).length,.raw (.slice none 0 0)]),(53,.arr 148 qO (Es l v n.1))]⟩) (fun n=>l.length-n.1) ⟨0,Nat.zero_le _⟩ (AC [(2,.nm 2),(8,.nm 8),(53,.nil)] rfl rfl ?_ ?_) (fun n=>?_)
  ·first|exact eN|refine eM ?_
   exact⟨rfl,rfl⟩
  ·first|exact eN|refine eM ?_
  ·obtain⟨n,hn⟩:=n
   have htl:=MA l v n
   have hts:=eD l v n
   simp only
   repeat'(first|exact trivial|refine eS rfl ?_|refine AB ?_|refine rX [0,2,3,4,5,6,8,9,10,18,29] hc ?_ ?_|refine rC ?_ ?_<;>intro AA<;>try(cases AA;done))
   ·refine⟨AA,AA,⟨AA,hll,hwid⟩,by rw[hvl];exact AA,?_⟩
    rw[htl]
    simp only[AP]
    omega
   ·omega
   ·have hn2:n<l.length:=Int.ofNat_lt.1 AA
    refine⟨⟨n+1,hn2⟩,by simp only;omega,AC [(2,.nm 2),(8,.nm 8),(53,.nm 53)] rfl rfl ?_ ?_⟩
    ·simp only[hts]
     first|exact eN|refine eM ?_
    ·simp only[hts]
     first|exact eN|refine eM ?_
   ·have hn2:n=l.length:=by omega
    subst hn2
    refine Gr [53] ?_
    exact AH hc [.cell 2 29,.tmp 3] rfl (.inl rfl) (by simp) (by rw[hr];first|exact eR|refine Aw ?_)
end
/- Functions of bits: word, Subset; hier: Subsumes. -/
section
def Xn:Af:={ ins:=[BA,T3],pre:=fun(_,i,_)=>(0:Int)≤i,out:=fun(b,i,_)=>[.p OO (Fs b i)],lend:=true }
attribute [local go_sem] Xn
theorem w6:Al Tryz.prog 192 Xn:=by
 refine AU Tryz.func192 (by kernel_rfl) rfl Tryz.ntmps192 (by decide) (by kernel_rfl) (AG []) AJ ?_
 rintro w0 O0 ⟨b,i,u⟩ hc-hi
 simp only[Xn,AN]
 repeat'(first|exact trivial|refine eS rfl ?_|refine AB ?_|refine rX [0,1,4,8] hc ?_ ?_|refine rC ?_ ?_<;>intro AA<;>try(cases AA;done))
 ·exact⟨hi,AA⟩
 ·have h1:Fs b i=b.getD i.toNat 0:=by unfold Fs;rw[if_pos AA]
  exact AH hc [.tmp 4] rfl (.inl rfl) (by simp) (by rw[h1];first|exact eR|refine Aw ?_)
 ·have h1:Fs b i=0:=by unfold Fs;rw[if_neg (Int.not_lt.2 AA)]
  exact AH hc [.tmp 4] rfl (.inl rfl) (by simp) (by rw[h1];first|exact eR|refine Aw ?_)
def K8 (a b:List Int):Bool:=(List.range a.length).all fun i=>CS .andNot .u64 (a.getD i 0) (Fs b (i:Int))==0
def Z2 (a b:List Int) (n:Nat):Bool:=(List.range n).all fun i=>CS .andNot .u64 (a.getD i 0) (Fs b (i:Int))==0
theorem eE (a b:List Int) (n:Nat):Z2 a b (n+1)=(Z2 a b n&&CS .andNot .u64 (a.getD n 0) (Fs b (n:Int))==0):=by
 unfold Z2
 rw[List.range_succ,List.all_append]
 simp
def I6:Af:={ ins:=[BA,BA],pre:=fun _=>True,out:=fun(a,b,_)=>[.p .bool (K8 a b)],lend:=true }
attribute [local go_sem] I6
theorem TW:Al Tryz.prog 148 I6:=by
 refine AU Tryz.func148 (by kernel_rfl) rfl Tryz.ntmps148 (by decide) (by kernel_rfl) (AG [(192,Xn)]) (AF w6 AJ) ?_
 rintro w0 O0 ⟨a,b,u⟩ hc ⟨⟨hal,-⟩,-⟩ -
 simp only[AP]at hal
 simp only[I6,AN]
 repeat'(first|exact trivial|refine eS rfl ?_|refine AB ?_|refine rX [0,1,4,5,6,7,8,9,10,19] hc ?_ ?_|refine rC ?_ ?_<;>intro AA<;>try(cases AA;done))
 have hfp:K8 a b=Z2 a b a.length:=rfl
 refine AL (ι:={n:Nat//n≤a.length∧Z2 a b n=true}) (fun n=>⟨[(1,.p BA b),(7,.p BA a),(8,.p (.int .i64) (a.length:Int)),(9,.p (.int .i64) (n.1:Int))],[]⟩) (fun n=>a.length-n.1) ⟨0,Nat.zero_le _,rfl⟩ (AC [] rfl rfl ?_ ?_) (fun n=>?_)
 ·first|exact eN|refine eM ?_
 ·first|exact eN|refine eM ?_
 ·obtain⟨n,hn,hall⟩:=n
  have hs:=eE a b n
  simp only
  repeat'(first|exact trivial|refine eS rfl ?_|refine AB ?_|refine rX [0,1,4,5,6,7,8,9,10,19] hc ?_ ?_|refine rC ?_ ?_<;>intro AA<;>try(cases AA;done))
  ·exact AA
  ·have hn2:n<a.length:=by exact eV
   have h1:K8 a b=false:=by
    unfold K8
    rw[List.all_eq_false]
    exact⟨n,List.mem_range.2 hn2,by simpa using AA⟩
   exact AH hc [.tmp 4] rfl (.inl rfl) (by simp) (by rw[h1];first|exact eR|refine Aw ?_)
  ·exact eV
  ·have hn2:n<a.length:=by exact eV
   refine⟨⟨n+1,hn2,?_⟩,by simp only;omega,AC [] rfl rfl ?_ ?_⟩
   ·rw[hs,hall]
    simpa using AA
   ·first|exact eN|refine eM ?_
   ·first|exact eN|refine eM ?_
  ·have hn2:n=a.length:=by exact eV
   subst hn2
   exact AH hc [.tmp 4] rfl (.inl rfl) (by simp) (by rw[hfp,hall];first|exact eR|refine Aw ?_)
abbrev Vz:Hb:=(ByteArray.empty,[],[],[])
def CH (h:AM) (a b:Int):Bool:=K8 (h.1.getD b.toNat Vz).2.1 (h.1.getD a.toNat Vz).2.1
def Z3:Af:={ ins:=[GD,T3,T3],pre:=fun(h,a,b,_)=>((0:Int)≤a∧a<(List.length (h:AM).1:Int))∧((0:Int)≤b∧b<(List.length (h:AM).1:Int)),out:=fun(h,a,b,_)=>[.p .bool (CH h a b)],lend:=true }
theorem A1Z:Al Tryz.prog 125 Z3:=by
 refine AU Tryz.func125 (by kernel_rfl) rfl Tryz.ntmps125 (by decide) (by kernel_rfl) (AG [(148,I6)]) (AF TW AJ) ?_
 rintro w0 O0 ⟨⟨ht,hf⟩,a,b,u⟩ hc-⟨ha,hb⟩
 simp only[Z3,AN]
 repeat'(first|exact trivial|refine eS rfl ?_|refine AB ?_|refine rX [0,1,2,3,6] hc ?_ ?_|refine rC ?_ ?_<;>intro AA<;>try(cases AA;done))
 ·exact⟨hb,ha⟩
 ·exact AH hc [.tmp 6] rfl (.inl rfl) (by simp) (by unfold CH;first|exact eR|refine Aw ?_)
end
/- Functions of bits: normal, And, Equal; hier: Meet. -/
section
attribute [local go_sem] I6
def Oj:Af:={ ins:=[BA],pre:=fun(b,_)=>List.length b≤100000,out:=fun(b,_)=>[.p BA (BH b)] }
attribute [local go_sem] Oj
theorem eF:Al Tryz.prog 147 Oj:=by
 refine AU Tryz.func147 (by kernel_rfl) rfl Tryz.ntmps147 (by decide) (by kernel_rfl) (AG []) AJ ?_
 rintro w0 O0 ⟨b,u⟩ hc-hb
 have hb:b.length≤100000:=hb
 simp only[Oj,AN]
 repeat'(first|exact trivial|refine eS rfl ?_|refine AB ?_|refine rX [0,2,3,15] hc ?_ ?_|refine rC ?_ ?_<;>intro AA<;>try(cases AA;done))
 refine AL (ι:={n:Nat//n≤b.length∧Cc b n=Cc b b.length}) (fun n=>⟨[(0,.p BA b),(3,.p (.int .i64) (n.1:Int))],[]⟩) (fun n=>n.1) ⟨b.length,Nat.le_refl _,rfl⟩ (AC [] rfl rfl ?_ ?_) (fun n=>?_)
 ·first|exact eN|refine eM ?_
 ·first|exact eN|refine eM ?_
 ·obtain⟨n,hn,hg⟩:=n
  simp only
  repeat'(first|exact trivial|refine eS rfl ?_|refine AB ?_|refine rX [0,2,3,15] hc ?_ ?_|refine rC ?_ ?_<;>intro AA<;>try(cases AA;done))
  ·constructor
   ·exact eV
   ·intro h
    refine⟨?_,?_⟩<;>exact eV
  ·exact eV
  ·obtain⟨h1,h2⟩:=AA
   obtain⟨m,rfl⟩:∃m,n=m+1:=⟨n-1,by omega⟩
   have e:(((m+1:Nat):Int)-1)=(m:Int):=by omega
   rw[e]at h2
   have h2:b.getD m 0=0:=h2
   have hg2:Cc b m=Cc b b.length:=by
    rw[←hg]
    show _=if b.getD m 0=0 then Cc b m else m+1
    rw[if_pos h2]
   refine⟨⟨m,by omega,hg2⟩,by simp,AC [] rfl rfl ?_ ?_⟩
   ·first|exact eN|refine eM ?_
   ·simp only[e]
    first|exact eN|refine eM ?_
  ·exact Int.ofNat_le.2 hn
  ·have hend:Cc b n=n:=by
    cases n with
    | zero=>rfl
    | succ m =>
     have e:(((m+1:Nat):Int)-1)=(m:Int):=by omega
     rw[e]at AA
     have h2:=AA (by omega)
     have h2:¬b.getD m 0=0:=h2
     show (if b.getD m 0=0 then Cc b m else m+1)=m+1
     rw[if_neg h2]
   have h1:BH b=b.take n:=by unfold BH;rw[←hg,hend]
   rw[←h1]
   exact AH hc [.tmp 2] rfl (.inl rfl) (by simp) (by first|exact eR|refine Aw ?_)
def GT (g:Nat→Int) (n i:Nat):List Int:=(List.range n).map fun j=>if j<i then g j else 0
theorem V0 (g:Nat→Int) (n i:Nat):(GT g n i).length=n:=by simp[GT]
theorem eG (g:Nat→Int) (n:Nat):GT g n 0=List.replicate n 0:=by
 apply List.ext_getElem
 ·simp[GT]
 ·intro j h1 h2
  simp[GT]
theorem rR (g:Nat→Int) (n i:Nat):(GT g n i).set i (g i)=GT g n (i+1):=by
 apply List.ext_getElem
 ·simp[GT]
 ·intro j h1 h2
  simp only[GT,List.getElem_set,List.getElem_map,List.getElem_range]
  split
  ·rename_i e;rw[if_pos (by omega),e]
  ·rename_i e
   by_cases hj:j<i
   ·rw[if_pos hj,if_pos (by omega)]
   ·rw[if_neg hj,if_neg (by omega)]
def Xo (a b:List Int) (i:Nat):Int:=CS .and .u64 (a.getD i 0) (b.getD i 0)
def Fe (a b:List Int):List Int:=BH (GT (Xo a b) (min a.length b.length) (min a.length b.length))
def n7:Af:={ ins:=[BA,BA],pre:=fun(a,_,_)=>List.length a≤100000,out:=fun(a,b,_)=>[.p BA (Fe a b)] }
attribute [local go_sem] n7
theorem A20:Al Tryz.prog 112 n7:=by
 refine AU Tryz.func112 (by kernel_rfl) rfl Tryz.ntmps112 (by decide) (by kernel_rfl) (AG [(147,Oj)]) (AF eF AJ) ?_
 rintro w0 O0 ⟨a,b,u⟩ hc-ha
 have ha:a.length≤100000:=ha
 simp only[n7,AN]
 repeat'(first|exact trivial|refine eS rfl ?_|refine AB ?_|refine rX [0,1,4,5,6,14,15,16] hc ?_ ?_|refine rC ?_ ?_<;>intro AA<;>try(cases AA;done))
 ·split<;>simp only[AP]<;>dsimp only[Ty.den]at *<;>omega
 ·have hmin:Int.toNat (if ((List.length b:Nat):Int)<((List.length a:Nat):Int) then ((List.length b:Nat):Int) else ((List.length a:Nat):Int))=min (List.length a) (List.length b):=by split<;>omega
  rw[hmin]
  have hr:Fe a b=BH (GT (Xo a b) (min a.length b.length) (min a.length b.length)):=rfl
  have hma:min a.length b.length≤a.length:=Nat.min_le_left _ _
  have hmb:min a.length b.length≤b.length:=Nat.min_le_right _ _
  generalize min a.length b.length=n at *
  refine AL (ι:={i:Nat//i≤n}) (fun i=>⟨[(0,.p BA a),(1,.p BA b),(5,.sr 12 OO 0 n),(14,.p (.int .i64) (n:Int)),(15,.p (.int .i64) (i.1:Int))],[(12,.arr 209 OO (GT (Xo a b) n i.1))]⟩) (fun i=>n-i.1) ⟨0,Nat.zero_le _⟩ (AC [(12,.nm 12)] rfl rfl ?_ ?_) (fun i=>?_)
  ·first|exact eN|refine eM ?_
   rw[eG]
  ·first|exact eN|refine eM ?_
  ·obtain⟨i,hi⟩:=i
   have hfl:=V0 (Xo a b) n i
   simp only
   repeat'(first|exact trivial|refine eS rfl ?_|refine AB ?_|refine rX [0,1,4,5,6,14,15,16] hc ?_ ?_|refine rC ?_ ?_<;>intro AA<;>try(cases AA;done))
   ·have hi2:i<n:=Int.ofNat_lt.1 AA
    exact⟨by exact eV,by exact eV,AA⟩
   ·exact eV
   ·have hi2:i<n:=Int.ofNat_lt.1 AA
    refine⟨⟨i+1,hi2⟩,by simp only;omega,AC [(12,.nm 12)] rfl rfl ?_ ?_⟩
    ·simp only[←rR]
     first|exact eN|refine eM ?_
     rfl
    ·first|exact eN|refine eM ?_
   ·have hi2:i=n:=by omega
    subst hi2
    have ht:(GT (Xo a b) i i).take i=GT (Xo a b) i i:=List.take_of_length_le (by rw[hfl];exact Nat.le_refl _)
    refine Gr [12] ?_
    repeat'(first|exact trivial|refine eS rfl ?_|refine AB ?_|refine rX [0,1,4,5,6,14,15,16] hc ?_ ?_|refine rC ?_ ?_<;>intro AA<;>try(cases AA;done))
    ·rw[ht,hfl]
     dsimp only[Ty.den]at *
     omega
    ·rw[ht]
     exact AH hc [.tmp 4] rfl (.inl rfl) (by simp) (by rw[hr];first|exact eR|refine Aw ?_)
def Di (a b:List Int):Bool:=K8 a b&&K8 b a
def Rp:Af:={ ins:=[BA,BA],pre:=fun _=>True,out:=fun(a,b,_)=>[.p .bool (Di a b)],lend:=true }
attribute [local go_sem] Rp
theorem rS:Al Tryz.prog 115 Rp:=by
 refine AU Tryz.func115 (by kernel_rfl) rfl Tryz.ntmps115 (by decide) (by kernel_rfl) (AG [(148,I6)]) (AF TW AJ) ?_
 rintro w0 O0 ⟨a,b,u⟩ hc - -
 simp only[Rp,AN]
 repeat'(first|exact trivial|refine eS rfl ?_|refine AB ?_|refine rX [0,1,4] hc ?_ ?_|refine rC ?_ ?_<;>intro AA<;>try(cases AA;done))
 exact AH hc [.tmp 4] rfl (.inl rfl) (by simp) (by unfold Di;first|exact eR|refine Aw ?_)
def Ed (c:List Int):Nat→List Hb→Int
 | _,[]=>-1
 | k,t :: l=>if Di t.2.1 c=true then (k:Int) else Ed c (k+1) l
theorem eH (c:List Int) (l:List Hb) {k:Nat} (h:k<l.length):Ed c k (l.drop k)=if Di (l.getD k Vz).2.1 c=true then (k:Int) else Ed c (k+1) (l.drop (k+1)):=by
 rw[List.drop_eq_getElem_cons h]
 have e:l.getD k Vz=l[k]:=by simp[List.getD_eq_getElem?_getD,h]
 rw[e]
 rfl
theorem w7 (c:List Int) (t:Hb):B8 Tryz.prog 114 [.p qO t,.bp 1 [] 0] [(1,.box 142 false [.p BA c])] [1] (fun res objs'=>res=.p .bool (Di t.2.1 c)∧objs'=[(1,.box 142 false [.p BA c])]):=by
 refine CQ Tryz.func114 (by kernel_rfl) rfl Tryz.ntmps114 (by simp only[List.length_cons,List.length_nil];omega) (by kernel_rfl) rfl rfl (AG [(115,Rp)]) (AF rS AJ) ?_
 intro w0 K O0 ρ0 hc hok1 hok2
 simp only[BG]
 repeat'(first|exact trivial|refine eS rfl ?_|refine AB ?_|refine rX [0,1,2,3] hc ?_ ?_|refine rC ?_ ?_<;>intro AA<;>try(cases AA;done))
 refine Ev.ent (σ':=⟨[(3,.p .bool (Di t.2.1 c))],[(1,.box 142 false [.p BA c])]⟩) ?_ (AC [(1,.nm 1)] rfl rfl ?_ ?_)
 ·exact BE hc [.tmp 3] rfl (.inl rfl) (.p .bool (Di t.2.1 c)) eT ⟨rfl,rfl⟩
 ·first|exact eN|refine eM ?_
 ·first|exact eN|refine eM ?_
theorem rT (l:List Hb) (c:List Int) (hl:l.length≤100000):B8 Tryz.prog 113 [.p YW l,.clo 114 [1]] [(1,.box 142 false [.p BA c])] [1] (fun res objs'=>res=.p T3 (Ed c 0 l)∧objs'=[(1,.box 142 false [.p BA c])]):=by
 refine CQ Tryz.func113 (by kernel_rfl) rfl Tryz.ntmps113 (by simp only[List.length_cons,List.length_nil];omega) (by kernel_rfl) rfl rfl (AG []) AJ ?_
 intro w0 K O0 ρ0 hc hok1 hok2
 simp only[BG]
 repeat'(first|exact trivial|refine eS rfl ?_|refine AB ?_|refine rX [0,1,4,5,7,8,9,16] hc ?_ ?_|refine rC ?_ ?_<;>intro AA<;>try(cases AA;done))
 refine AL (ι:={k:Nat//k≤l.length∧Ed c k (l.drop k)=Ed c 0 l}) (fun k=>⟨[(0,.p YW l),(1,.clo 114 [1]),(7,.p (.int .i64) (l.length:Int)),(8,.p (.int .i64) (k.1:Int))],[(1,.box 142 false [.p BA c])]⟩) (fun k=>l.length-k.1) ⟨0,Nat.zero_le _,rfl⟩ (AC [(1,.nm 1)] rfl rfl ?_ ?_) (fun k=>?_)
 ·first|exact eN|refine eM ?_
 ·first|exact eN|refine eM ?_
 ·obtain⟨k,hk,hf⟩:=k
  have hst:=fun h:k<l.length=>eH c l h
  simp only
  repeat'(first|exact trivial|refine eS rfl ?_|refine AB ?_|refine rX [0,1,4,5,7,8,9,16] hc ?_ ?_|refine rC ?_ ?_<;>intro AA<;>try(cases AA;done))
  ·have hk2:k<l.length:=Int.ofNat_lt.1 AA
   have hs2:=hst hk2
   refine cP 5 hc ?_ ?_
   ·exact AA
   ·refine rM hc (w7 c (l.getD k Vz)) [(1,.nm 1)] [] ?_ ?_ ?_
    ·first|exact eN|refine eM ?_
    ·first|exact eN|refine eM ?_
    ·rintro _ _ ⟨rfl,rfl⟩
     refine⟨[(1,.nm 1)],.p .bool (Di (l.getD k Vz).2.1 c),[(1,.box 142 false [.p BA c])],rfl,rfl,?_,?_,rfl,rfl,Dc ?_⟩
     ·first|exact eN|refine eM ?_
     ·first|exact eN|refine eM ?_
     ·repeat'(first|exact trivial|refine eS rfl ?_|refine AB ?_|refine rX [0,1,4,5,7,8,9,16] hc ?_ ?_|refine rC ?_ ?_<;>intro AA<;>try(cases AA;done))
      ·have AA:Di (l.getD k Vz).2.1 c=true:=AA
       rw[if_pos AA,hf]at hs2
       refine Ev.ent (σ':=⟨[(4,.p (.int .i64) (k:Int))],[(1,.box 142 false [.p BA c])]⟩) ?_ (AC [(1,.nm 1)] rfl rfl ?_ ?_)
       ·exact BE hc [.tmp 4] rfl (.inl rfl) (.p T3 (k:Int)) eT ⟨by rw[hs2],rfl⟩
       ·first|exact eN|refine eM ?_
       ·first|exact eN|refine eM ?_
      ·omega
      ·have AA:Di (l.getD k Vz).2.1 c=false:=AA
       rw[if_neg (by rw[AA];simp)]at hs2
       refine⟨⟨k+1,hk2,hs2.symm.trans hf⟩,by simp only;omega,AC [(1,.nm 1)] rfl rfl ?_ ?_⟩
       ·first|exact eN|refine eM ?_
       ·first|exact eN|refine eM ?_
  ·have hk2:l.drop k=[]:=List.drop_eq_nil_of_le (Int.ofNat_le.1 AA)
   rw[hk2]at hf
   have hf:(-1:Int)=Ed c 0 l:=hf
   refine Ev.ent (σ':=⟨[(4,.p (.int .i64) (-1))],[(1,.box 142 false [.p BA c])]⟩) ?_ (AC [(1,.nm 1)] rfl rfl ?_ ?_)
   ·exact BE hc [.tmp 4] rfl (.inl rfl) (.p T3 (-1)) eT ⟨by rw[hf],rfl⟩
   ·first|exact eN|refine eM ?_
   ·first|exact eN|refine eM ?_
def BM (h:AM) (t:Int):List Int:=(h.1.getD t.toNat Vz).2.1
def CB (h:AM) (a b:Int):Int×Bool :=
 if (Fe (BM h a) (BM h b)).length=0 then (0,false) else if Ed (Fe (BM h a) (BM h b)) 0 h.1<0 then (0,false) else (Ed (Fe (BM h a) (BM h b)) 0 h.1,true)
def n8:Af:={ ins:=[GD,T3,T3],pre:=fun(h,a,b,_)=>((0:Int)≤a∧a<(List.length (h:AM).1:Int))∧((0:Int)≤b∧b<(List.length (h:AM).1:Int))∧List.length (h:AM).1≤100000∧(∀x∈(h:AM).1,x.2.1.length≤100000),out:=fun(h,a,b,_)=>[.p T3 (CB h a b).1,.p .bool (CB h a b).2],lend:=true }
theorem A21:Al Tryz.prog 76 n8:=by
 refine AU Tryz.func76 (by kernel_rfl) rfl Tryz.ntmps76 (by decide) (by kernel_rfl) (AG [(112,n7)]) (AF A20 AJ) ?_
 rintro w0 O0 ⟨⟨ht,hf⟩,a,b,u⟩ hc-⟨ha,hb,hl,hx⟩
 simp only[n8,AN]
 refine Ev.ent (σ':=⟨[(0,.p GD (ht,hf)),(1,.p T3 a),(2,.p T3 b)],[]⟩) ?_ (AC [] rfl rfl ?_ ?_)
 ·repeat'(first|exact trivial|refine eS rfl ?_|refine AB ?_|refine rX [0,1,2,3,6,7,8,9,25,31] hc ?_ ?_|refine rC ?_ ?_<;>intro AA<;>try(cases AA;done))
  ·refine⟨ha,hb,?_⟩
   have h1:Int.toNat a<List.length ht:=(Int.toNat_lt ha.1).2 ha.2
   exact hx _ (AD (ht:List Hb) Vz h1)
  ·have hr:CB (ht,hf) a b=(0,false):=by
    unfold CB
    rw[if_pos (by unfold BM;exact Int.ofNat.inj AA)]
   exact AH hc [.tmp 6,.tmp 7] rfl (.inl rfl) (by simp) (by rw[hr];first|exact eR|refine Aw ?_)
  ·have hcd:∀c,c=Fe (List.getD ht (Int.toNat a) (ByteArray.empty,[],[],[])).2.1 (List.getD ht (Int.toNat b) (ByteArray.empty,[],[],[])).2.1→c=Fe (BM (ht,hf) a) (BM (ht,hf) b):=fun c h=>h
   have hmf:CB (ht,hf) a b=if Ed (Fe (BM (ht,hf) a) (BM (ht,hf) b)) 0 ht<0 then (0,false) else (Ed (Fe (BM (ht,hf) a) (BM (ht,hf) b)) 0 ht,true):=by
    unfold CB
    rw[if_neg (fun h=>AA (by unfold BM at h;exact congrArg Int.ofNat h))]
   generalize hcg:Fe (List.getD ht (Int.toNat a) (ByteArray.empty,[],[],[])).2.1 (List.getD ht (Int.toNat b) (ByteArray.empty,[],[],[])).2.1=c at *
   rw[←hcd c rfl]at hmf
   refine cP 3 hc ?_ ?_
   ·trivial
   ·refine rM hc (rT ht c hl) [(1,.nm 8)] [] ?_ ?_ ?_
    ·first|exact eN|refine eM ?_
    ·first|exact eN|refine eM ?_
    ·rintro _ _ ⟨rfl,rfl⟩
     refine⟨[(8,.nm 1)],.p T3 (Ed c 0 ht),[(8,.box 142 false [.p BA c])],rfl,rfl,?_,?_,rfl,rfl,?_⟩
     ·first|exact eN|refine eM ?_
     ·first|exact eN|refine eM ?_
     ·generalize Ed c 0 ht=m at *
      refine rL [0,1,2,3,6,7,8,9,25,31] hc ?_ ?_
      ·trivial
      ·repeat'(first|exact trivial|refine eS rfl ?_|refine AB ?_|refine rX [0,1,2,3,6,7,8,9,25,31] hc ?_ ?_|refine rC ?_ ?_<;>intro AA<;>try(cases AA;done))
       ·rw[if_pos AA]at hmf
        exact AH hc [.tmp 6,.tmp 7] rfl (.inl rfl) (by simp) (by rw[hmf];first|exact eR|refine Aw ?_)
       ·rw[if_neg (Int.not_lt.2 AA)]at hmf
        exact AH hc [.tmp 6,.tmp 7] rfl (.inl rfl) (by simp) (by rw[hmf];first|exact eR|refine Aw ?_)
 ·first|exact eN|refine eM ?_
 ·first|exact eN|refine eM ?_
end
/- Plain: hier.Meet finds the most general common subtype. -/
section
structure n9 (l:List (List Int)):Prop where
 wds:∀c∈l,H8 c
 some:∀c∈l,∃i,BR c i=true
 wid:∀c∈l,c.length≤64
 meet:∀a∈l,∀b∈l,(∃i,BR a i=true∧BR b i=true)→∃t∈l,∀i,BR t i=(BR a i&&BR b i)
structure Bs (l:List (List Int)):Prop where
 wds:∀c∈l,H8 c
 some:∀c∈l,∃i,BR c i=true
theorem WA {l:List (List Int)} {k:Nat} (h:¬k<l.length):l.getD k []=[]:=by
 rw[List.getD_eq_getElem?_getD,List.getElem?_eq_none (by omega)];rfl
theorem Bs.get {l:List (List Int)} (h:Bs l) (k:Nat):H8 (l.getD k []):=by
 by_cases hk:k<l.length
 ·exact h.wds _ (DM hk)
 ·rw[WA hk]
  intro x hx
  cases hx
theorem A22 {l:List (List Int)} (h:Bs l) (i k:Nat):Bs (Gd l i k):=by
 unfold Gd
 split
 ·rename_i hc
  rw[Bool.and_eq_true,decide_eq_true_eq]at hc
  refine⟨fun c hc'=>?_,fun c hc'=>?_⟩
  ·rcases List.mem_append.1 hc' with hc'|hc'
   ·exact h.wds c hc'
   ·have:c=Fb (l.getD i []) (l.getD k []):=by simpa using hc'
    rw[this]
    exact Xj (h.get i) (h.get k)
  ·rcases List.mem_append.1 hc' with hc'|hc'
   ·exact h.some c hc'
   ·have:c=Fb (l.getD i []) (l.getD k []):=by simpa using hc'
    rw[this]
    have hne:Fb (l.getD i []) (l.getD k [])≠[]:=by
     intro e
     rw[e]at hc
     exact absurd hc.1 (by simp)
    have hz:H8 (F4 .and (l.getD i []) (l.getD k []) (l.getD i []).length):=by
     intro x hx
     unfold F4 at hx
     obtain⟨j,-,rfl⟩:=List.mem_map.1 hx
     rw[Gz,HW (A8 (h.get i) _) (A8 (h.get k) _)]
     have h1:=A8 (h.get i) j
     have h2:((l.getD i []).getD j 0).toNat &&& ((l.getD k []).getD j 0).toNat≤((l.getD i []).getD j 0).toNat:=Nat.and_le_left
     have h3:=h1.1
     have h4:=h1.2
     exact⟨Int.natCast_nonneg _,by omega⟩
    obtain⟨j,hj⟩:=d7 hz hne
    exact⟨j,by unfold Fb;rw[M8];exact hj⟩
 ·exact h
theorem oA {i:Nat}:∀ {n k:Nat} {l:List (List Int)},Bs l→Bs (Ge i n k l)
 | 0,_,_,h=>h
 | n+1,k,l,h=>by
  unfold Ge
  split
  ·exact oA (A22 h i k)
  ·exact h
theorem oB:∀ {n i:Nat} {l:List (List Int)},Bs l→Bs (IW n i l)
 | 0,_,_,h=>h
 | n+1,i,l,h=>by
  unfold IW
  split
  ·exact oB (oA h)
  ·exact h
theorem rU {d:List AK} (h3:BK d=0):Bs (Ah d):=by
 obtain⟨-,h2,-⟩:=A7 h3
 have hnl:=E0 d d.length
 rw[List.take_length]at hnl
 have hal:(AX d).length≤4096:=by omega
 refine⟨fun c hc=>?_,fun c hc=>?_⟩
 ·unfold Ah at hc
  obtain⟨s,-,rfl⟩:=List.mem_map.1 hc
  exact(EM (d:=d) hal s 0).2.1
 ·unfold Ah at hc
  obtain⟨s,hs,rfl⟩:=List.mem_map.1 hc
  obtain⟨j,hj,e⟩:=Cu ByteArray.empty hs
  have hsd:0≤BB d s:=by
   obtain⟨x,hx,e⟩:=F6 hs
   rw[←e];exact E3 hx
  exact⟨j,(EM (d:=d) hal s j).1.2 ⟨hj,by rw[e];exact ND hsd⟩⟩
theorem eI {d:List AK} (h3:BK d=0) (hl:(A1 (Ah d)).length≤256):n9 (A1 (Ah d)):=by
 obtain⟨-,h2,-⟩:=A7 h3
 have hb:Bs (A1 (Ah d)):=oB (rU h3)
 have hm:=Xi hl
 refine⟨hb.wds,hb.some,Od (NF h2),fun a ha b hb2 hi=>?_⟩
 obtain⟨q,hq,rfl⟩:=Cu [] ha
 obtain⟨p,hp,rfl⟩:=Cu [] hb2
 have key:∀q p,q<(A1 (Ah d)).length→p<(A1 (Ah d)).length→KB (A1 (Ah d)) q p→(∃i,BR ((A1 (Ah d)).getD q []) i=true∧BR ((A1 (Ah d)).getD p []) i=true) →
   ∃t∈A1 (Ah d),∀i,BR t i=(BR ((A1 (Ah d)).getD q []) i&&BR ((A1 (Ah d)).getD p []) i):=by
  intro q p hq hp hmm hi
  have hand:=Ro (hb.get q) (hb.get p)
  rcases hmm with hmm|hmm
  ·obtain⟨i,i1,i2⟩:=hi
   have:=hand i
   rw[hmm,i1,i2]at this
   unfold BR at this
   simp at this
  ·exact⟨_,hmm,hand⟩
 rcases Nat.lt_trichotomy p q with h|h|h
 ·exact key q p hq hp (hm q p h hq) hi
 ·subst h
  exact⟨_,DM hq,fun i=>by rw[Bool.and_self]⟩
 ·obtain⟨t,ht,e⟩:=key p q hp hq (hm p q h hp) (by obtain⟨i,i1,i2⟩:=hi;exact⟨i,i2,i1⟩)
  exact⟨t,ht,fun i=>by rw[e i,Bool.and_comm]⟩
def WB (h:AM):Prop:=n9 (h.1.map fun t=>t.2.1)∧h.1.length≤256
theorem H9 (d:List AK):WB (AZ d).1:=by
 unfold AZ
 split
 ·exact⟨⟨fun c h=>(by cases h),fun c h=>(by cases h),fun c h=>(by cases h),fun c h=>(by cases h)⟩,by simp⟩
 ·rename_i hv
  have hv:(BO d).2=0:=Classical.byContradiction hv
  have h5:BN d=0:=by
   unfold BO at hv
   split at hv
   ·rename_i h;exact absurd hv h
   ·rename_i h;exact Classical.byContradiction h
  obtain⟨hz,-,-⟩:=CT h5
  obtain⟨h3,hlen,-⟩:=Bc hz
  have hf:=eI h3 hlen
  have hmem:∀c,c∈((GS d).1.map fun t=>t.2.1)↔c∈A1 (Ah d):=by
   intro c
   have e:((GS d).1.map fun t=>t.2.1)=(A0 d).map fun x=>x.2:=by
    show ((Es _ _ _).map fun t=>t.2.1)=_
    unfold Es
    rw[List.map_map]
    apply List.ext_getElem
    ·simp
    ·intro i h1 h2
     simp[List.getD_eq_getElem?_getD,show i<(A0 d).length by simpa using h1]
   rw[e]
   constructor
   ·intro h
    obtain⟨x,hx,rfl⟩:=List.mem_map.1 h
    obtain⟨b,hb,rfl⟩:=Dh.1 hx
    exact hb
   ·intro h
    exact List.mem_map.2 ⟨_,Dh.2 ⟨c,h,rfl⟩,rfl⟩
  refine⟨⟨fun c h=>hf.wds c ((hmem c).1 h),fun c h=>hf.some c ((hmem c).1 h),fun c h=>hf.wid c ((hmem c).1 h),fun a ha b hb hi=>?_⟩,?_⟩
  ·obtain⟨t,ht,e⟩:=hf.meet a ((hmem a).1 ha) b ((hmem b).1 hb) hi
   exact⟨t,(hmem t).2 ht,e⟩
  ·show (Es _ _ _).length≤256
   rw[MA,HZ]
   exact hlen
/-! Subsumption and meets as sets -/
theorem CC {h:AM} {t:Int} (g0:0≤t) (g1:t<(h.1.length:Int)):BM h t∈h.1.map fun t=>t.2.1 :=
 List.mem_map.2 ⟨_,AD h.1 Vz (k:=t.toNat) (by omega),rfl⟩
theorem TX {a b:List Int} (ha:H8 a) (hb:H8 b):K8 a b=true↔∀i,BR a i=true→BR b i=true:=by
 constructor
 ·intro h i hi
  by_cases hk:i / 64<a.length
  ·have h1:=List.all_eq_true.1 h (i / 64) (List.mem_range.2 hk)
   rw[beq_iff_eq,Gz]at h1
   exact Qr (A8 ha _) (A8 hb _) h1 (Nat.mod_lt _ (by decide)) hi
  ·exfalso
   unfold BR at hi
   rw[GR hk]at hi
   simp at hi
 ·intro h
  unfold K8
  rw[List.all_eq_true]
  intro k _
  rw[beq_iff_eq,Gz]
  exact Vu ha hb h k
theorem w8 {a b:List Int} (ha:H8 a) (hb:H8 b) (i:Nat):BR (Fe a b) i=(BR a i&&BR b i):=by
 unfold Fe
 rw[M8]
 unfold BR
 have:(GT (Xo a b) (min a.length b.length) (min a.length b.length)).getD (i / 64) 0=CS .and .u64 (a.getD (i / 64) 0) (b.getD (i / 64) 0):=by
  by_cases h:i / 64<min a.length b.length
  ·unfold GT
   rw[List.getD_eq_getElem?_getD,List.getElem?_map,List.getElem?_range h]
   show (if i / 64<min a.length b.length then Xo a b (i / 64) else 0)=_
   rw[if_pos h]
   rfl
  ·rw[GR (by rw[V0];exact h),HW (A8 ha _) (A8 hb _)]
   by_cases h1:i / 64<a.length
   ·rw[GR (b:=b) (by omega)]
    simp
   ·rw[GR (b:=a) h1]
    simp
 rw[this,HW (A8 ha _) (A8 hb _),Int.toNat_natCast,Nat.testBit_and]
theorem w9 {a b:List Int} (ha:H8 a) (hb:H8 b):H8 (Fe a b):=by
 refine M9 fun x hx=>?_
 unfold GT at hx
 obtain⟨j,-,rfl⟩:=List.mem_map.1 hx
 split
 ·unfold Xo
  rw[HW (A8 ha _) (A8 hb _)]
  have h1:=A8 ha j
  have h2:(a.getD j 0).toNat &&& (b.getD j 0).toNat≤(a.getD j 0).toNat:=Nat.and_le_left
  have h3:=h1.1
  have h4:=h1.2
  exact⟨Int.natCast_nonneg _,by omega⟩
 ·exact⟨by decide,by decide⟩
theorem TY (c:List Int):∀(l:List Hb) (k:Nat),(Ed c k l=-1∧∀t∈l,Di t.2.1 c=false)∨((k:Int)≤Ed c k l∧Ed c k l<(k:Int)+l.length∧Di (l.getD ((Ed c k l).toNat-k) Vz).2.1 c=true)
 | [],k=>.inl ⟨rfl,fun t ht=>by cases ht⟩
 | x :: l,k=>by
  simp only[Ed]
  split
  ·rename_i h
   right
   refine⟨by omega,by simp only[List.length_cons];omega,?_⟩
   rw[show ((k:Int).toNat-k)=0 by omega]
   exact h
  ·rename_i h
   have h:Di x.2.1 c=false:=by simpa using h
   rcases TY c l (k+1) with ⟨h1,h2⟩|⟨h1,h2,h3⟩
   ·left
    refine⟨h1,fun t ht=>?_⟩
    rcases List.mem_cons.1 ht with rfl|ht
    ·exact h
    ·exact h2 t ht
   ·right
    refine⟨by omega,by simp only[List.length_cons];omega,?_⟩
    rw[show ((Ed c (k+1) l).toNat-k)=((Ed c (k+1) l).toNat-(k+1))+1 by omega]
    exact h3
def oC (h:AM) (t:Int) (i:Nat):Bool:=BR (BM h t) i
theorem CM {h:AM} (hk:WB h) {a b:Int} (a0:0≤a) (a1:a<(h.1.length:Int)) (b0:0≤b) (b1:b<(h.1.length:Int)):CH h a b=true↔∀i,oC h b i=true→oC h a i=true :=
 TX (hk.1.wds _ (CC b0 b1)) (hk.1.wds _ (CC a0 a1))
theorem xA {h:AM} (hk:WB h) {a b:Int} (a0:0≤a) (a1:a<(h.1.length:Int)) (b0:0≤b) (b1:b<(h.1.length:Int)) :
  ((CB h a b).2=true→0≤(CB h a b).1∧(CB h a b).1<(h.1.length:Int)∧∀i,oC h (CB h a b).1 i=(oC h a i&&oC h b i))∧((∃i,oC h a i=true∧oC h b i=true)→(CB h a b).2=true):=by
 have wa:=hk.1.wds _ (CC a0 a1)
 have wb:=hk.1.wds _ (CC b0 b1)
 have hbit:=w8 wa wb
 have hwc:=w9 wa wb
 have heq:∀t∈h.1,Di t.2.1 (Fe (BM h a) (BM h b))=true↔∀i,BR t.2.1 i=BR (Fe (BM h a) (BM h b)) i:=by
  intro t ht
  have wt:=hk.1.wds t.2.1 (List.mem_map.2 ⟨t,ht,rfl⟩)
  unfold Di
  rw[Bool.and_eq_true,TX wt hwc,TX hwc wt]
  constructor
  ·rintro⟨e1,e2⟩ i
   rw[Bool.eq_iff_iff]
   exact⟨e1 i,e2 i⟩
  ·intro e
   exact⟨fun i hi=>by rw[←e i];exact hi,fun i hi=>by rw[e i];exact hi⟩
 unfold CB
 by_cases hz:(Fe (BM h a) (BM h b)).length=0
 ·rw[if_pos hz]
  refine⟨fun e=>(by cases e),?_⟩
  rintro⟨i,i1,i2⟩
  exfalso
  have:=hbit i
  rw[List.eq_nil_of_length_eq_zero hz]at this
  unfold oC at i1 i2
  rw[i1,i2]at this
  unfold BR at this
  simp at this
 ·rw[if_neg hz]
  rcases TY (Fe (BM h a) (BM h b)) h.1 0 with ⟨h1,h2⟩|⟨h1,h2,h3⟩
  ·rw[if_pos (by omega)]
   refine⟨fun e=>(by cases e),fun hi=>?_⟩
   exfalso
   obtain⟨t,ht,e⟩:=hk.1.meet _ (CC a0 a1) _ (CC b0 b1) hi
   obtain⟨x,hx,rfl⟩:=List.mem_map.1 ht
   have:=(heq x hx).2 (fun i=>by rw[hbit i];exact e i)
   rw[h2 x hx]at this
   cases this
  ·have h1:0≤Ed (Fe (BM h a) (BM h b)) 0 h.1:=by omega
   rw[if_neg (by omega)]
   refine⟨fun _=>⟨h1,by simp only;omega,fun i=>?_⟩,fun _=>rfl⟩
   rw[Nat.sub_zero]at h3
   have hm:=AD h.1 Vz (k:=(Ed (Fe (BM h a) (BM h b)) 0 h.1).toNat) (by omega)
   have:=(heq _ hm).1 h3 i
   rw[hbit i]at this
   exact this
theorem Z4 {h:AM} (hk:WB h) {a b:Int} (a0:0≤a) (a1:a<(h.1.length:Int)) (b0:0≤b) (b1:b<(h.1.length:Int)) :
  ((CB h a b).2=true→0≤(CB h a b).1∧(CB h a b).1<(h.1.length:Int)∧CH h a (CB h a b).1=true∧CH h b (CB h a b).1=true) ∧
  ∀x,0≤x→x<(h.1.length:Int)→CH h a x=true→CH h b x=true→(CB h a b).2=true∧CH h (CB h a b).1 x=true:=by
 obtain⟨m1,m2⟩:=xA hk a0 a1 b0 b1
 refine⟨fun e=>?_,fun x x0 x1 hax hbx=>?_⟩
 ·obtain⟨q0,q1,q2⟩:=m1 e
  refine⟨q0,q1,(CM hk a0 a1 q0 q1).2 fun i hi=>?_,(CM hk b0 b1 q0 q1).2 fun i hi=>?_⟩
  ·rw[q2 i,Bool.and_eq_true]at hi;exact hi.1
  ·rw[q2 i,Bool.and_eq_true]at hi;exact hi.2
 ·have ga:=(CM hk a0 a1 x0 x1).1 hax
  have gb:=(CM hk b0 b1 x0 x1).1 hbx
  obtain⟨i,hi⟩:=hk.1.some _ (CC x0 x1)
  have e:=m2 ⟨i,ga i hi,gb i hi⟩
  obtain⟨q0,q1,q2⟩:=m1 e
  refine⟨e,(CM hk q0 q1 x0 x1).2 fun j hj=>?_⟩
  rw[q2 j,Bool.and_eq_true]
  exact⟨ga j hj,gb j hj⟩
end
/- Functions of grammarlabref07. -/
section
abbrev A6X:=Int×List (Int×Int)
def Gf (f:List A6X):Bool:=decide (f.length≤12)&&f.all fun n=>decide (n.2.length≤12)
def TZ:Af:={ ins:=[Ds],pre:=fun _=>True,out:=fun(f,_)=>[.p .bool (Gf f)] }
theorem xB:Al Tryz.prog 54 TZ:=by
 refine AU Tryz.func54 (by kernel_rfl) rfl Tryz.ntmps54 (by decide) (by kernel_rfl) (AG []) (fun f sp h=>by simp[lk]at h) ?_
 rintro w0 O0 ⟨l,u⟩ hc hok hpre
 simp only[TZ,AN]
 repeat'(first|exact trivial|refine eS rfl ?_|refine AB ?_|refine rX [0,1,2,3,7,12,22] hc ?_ ?_|refine rC ?_ ?_<;>intro AA<;>try(cases AA;done))
 ·have h1:Gf l=false:=by
   have h:¬(List.length l≤12):=by exact eV
   unfold Gf
   rw[decide_eq_false h];rfl
  exact AH hc [.tmp 2] rfl (.inl rfl) (by simp) (by rw[h1];first|exact eR|refine Aw ?_)
 ·refine AL (ι:={k:Nat//k≤l.length∧(l.take k).all (fun n=>decide (n.2.length≤12))=true}) (fun k=>⟨[(0,.p Ds l),(1,.bp 1 [] 0),(3,.p (.int .i64) (k.1:Int))],[(1,.box 25 true [.p Fl l])]⟩) (fun k=>l.length-k.1) ⟨0,by simp⟩ (AC [(1,.nm 1)] rfl rfl ?_ ?_) (fun k=>?_)
  ·first|exact eN|refine eM ?_
  ·first|exact eN|refine eM ?_
  ·obtain⟨k,hk,hall⟩:=k
   repeat'(first|exact trivial|refine eS rfl ?_|refine AB ?_|refine rX [0,1,2,3,7,12,22] hc ?_ ?_|refine rC ?_ ?_<;>intro AA<;>try(cases AA;done))
   ·exact eV
   ·have h1:Gf l=false:=by
     have hk:k<l.length:=by exact eV
     have h:=AD l (0,[]) hk
     unfold Gf
     rw[Bool.and_eq_false_iff]
     right
     rw[List.all_eq_false]
     exact⟨_,h,by simp only[decide_eq_true_eq];exact eV⟩
    exact AH hc [.tmp 2] rfl (.inl rfl) (by simp) (by rw[h1];first|exact eR|refine Aw ?_)
   ·exact eV
   ·have hk:k<l.length:=by exact eV
    refine⟨⟨k+1,by exact eV,?_⟩,by simp only;exact eV,AC [(1,.nm 1)] rfl rfl ?_ ?_⟩
    ·have h1:=Ac l (0,[]) hk
     have h2:((l.take (k+1)).all fun n=>decide (n.2.length≤12))=_:=congrArg (fun x=>List.all x fun n=>decide (n.2.length≤12)) h1
     rw[h2,List.all_append,hall]
     simp only[List.all_cons,List.all_nil,Bool.and_true,Bool.true_and,decide_eq_true_eq]
     exact eV
    ·first|exact eN|refine eM ?_
    ·first|exact eN|refine eM ?_
   ·have h1:Gf l=true:=by
     have hk:l.take k=l:=List.take_of_length_le (by exact eV)
     rw[hk]at hall
     unfold Gf
     rw[hall,decide_eq_true (by exact eV)];rfl
    exact AH hc [.tmp 2] rfl (.inl rfl) (by simp) (by rw[h1];first|exact eR|refine Aw ?_)
end
/- Functions of grammarlabref07: arcs. -/
section
def Ol (n:Int) (seen:List (Int×Int)):List (Int×Int)→Int
 | []=>0
 | x :: r=>if x.1<0∨x.2<0∨n≤x.2 then 2 else if (seen.any fun y=>y.1==x.1)=true then 4 else Ol n (seen++[x]) r
def I7 (l:List (Int×Int)) (n:Int):Int:=Ol n [] l
def oD:Af:={ ins:=[CE,T3],pre:=fun _=>True,out:=fun(l,n,_)=>[.p ZO (I7 l n)] }
theorem Ta (n:Int) (l:List (Int×Int)) {k:Nat} (h:k<l.length):Ol n (l.take k) (l.drop k)=if (l.getD k (0,0)).1<0∨(l.getD k (0,0)).2<0∨n≤(l.getD k (0,0)).2 then 2 else if ((l.take k).any fun y=>y.1==(l.getD k (0,0)).1)=true then 4 else Ol n (l.take (k+1)) (l.drop (k+1)):=by
 rw[Ac l (0,0) h,List.drop_eq_getElem_cons h,List.getD_eq_getElem?_getD,List.getElem?_eq_getElem h]
 rfl
theorem Um (l:List (Int×Int)) (f:Int) {k:Nat} (h:k<l.length):((l.take (k+1)).any fun y=>y.1==f)=((l.take k).any (fun y=>y.1==f)||((l.getD k (0,0)).1==f)):=by
 rw[Ac l (0,0) h,List.any_append];simp
theorem A23:Al Tryz.prog 146 oD:=by
 refine AU Tryz.func146 (by kernel_rfl) rfl Tryz.ntmps146 (by decide) (by kernel_rfl) (AG []) (fun f sp h=>by simp[lk]at h) ?_
 rintro w0 O0 ⟨l,n,u⟩ hc ⟨⟨hl,-⟩,-⟩ -
 simp only[AP]at hl
 simp only[oD,AN]
 repeat'(first|exact trivial|refine eS rfl ?_|refine AB ?_|refine rX [0,1,4,5,6,10,35,38,51] hc ?_ ?_|refine rC ?_ ?_<;>intro AA<;>try(cases AA;done))
 refine AL (ι:={k:Nat//k≤l.length∧Ol n (l.take k) (l.drop k)=I7 l n}) (fun k=>⟨[(0,.p CE l),(1,.p T3 n),(5,.p (.int .i64) (k.1:Int))],[]⟩) (fun k=>l.length-k.1) ⟨0,by simp[I7]⟩ (AC [] rfl rfl ?_ ?_) (fun k=>?_)
 ·first|exact eN|refine eM ?_
 ·first|exact eN|refine eM ?_
 ·obtain⟨k,hk,hall⟩:=k
  repeat'(first|exact trivial|refine eS rfl ?_|refine AB ?_|refine rX [0,1,4,5,6,10,35,38,51] hc ?_ ?_|refine rC ?_ ?_<;>intro AA<;>try(cases AA;done))
  ·exact eV
  ·have hk:k<l.length:=by exact eV
   have h1:I7 l n=2:=by
    rw[←hall,Ta n l hk,if_pos (by rw[←or_assoc];exact AA)]
   exact AH hc [.tmp 4] rfl (.inl rfl) (by simp) (by rw[h1];first|exact eR|refine Aw ?_)
  ·have hk:k<l.length:=by exact eV
   have hn:¬((l.getD k (0,0)).1<0∨(l.getD k (0,0)).2<0∨n≤(l.getD k (0,0)).2):=by
    have:=AA
    generalize l.getD k (0,0)=x at this
    exact eV
   rw[Ta n l hk,if_neg hn]at hall
   refine AL (ι:={j:Nat//j≤k∧((l.take j).any fun y=>y.1==(l.getD k (0,0)).1)=false}) (fun j=>⟨[(0,.p CE l),(1,.p T3 n),(5,.p (.int .i64) (k:Int)),(6,.p (.int .i64) (j.1:Int))],[]⟩) (fun j=>k-j.1) ⟨0,by simp⟩ (AC [] rfl rfl ?_ ?_) (fun j=>?_)
   ·first|exact eN|refine eM ?_
   ·first|exact eN|refine eM ?_
   ·obtain⟨j,hj,hany⟩:=j
    repeat'(first|exact trivial|refine eS rfl ?_|refine AB ?_|refine rX [0,1,4,5,6,10,35,38,51] hc ?_ ?_|refine rC ?_ ?_<;>intro AA<;>try(cases AA;done))
    ·exact eV
    ·have hjl:j<l.length:=by exact eV
     have h1:I7 l n=4:=by
      have h2:((l.take k).any fun y=>y.1==(l.getD k (0,0)).1)=true:=by
       rw[List.any_eq_true]
       refine⟨l.getD j (0,0),?_,by simpa using AA⟩
       rw[List.getD_eq_getElem?_getD,List.getElem?_eq_getElem hjl]
       exact List.mem_take_iff_getElem.2 ⟨j,by exact eV,rfl⟩
      rw[←hall,if_pos h2]
     exact AH hc [.tmp 4] rfl (.inl rfl) (by simp) (by rw[h1];first|exact eR|refine Aw ?_)
    ·exact eV
    ·have hjl:j<l.length:=by exact eV
     refine⟨⟨j+1,by exact eV,?_⟩,by simp only;exact eV,AC [] rfl rfl ?_ ?_⟩
     ·have h2:=Um l (l.getD k (0,0)).1 hjl
      refine h2.trans ?_
      rw[hany]
      simpa using AA
     ·first|exact eN|refine eM ?_
     ·first|exact eN|refine eM ?_
    ·exact eV
    ·have hjk:j=k:=by exact eV
     subst hjk
     refine⟨⟨j+1,by exact eV,?_⟩,by simp only;exact eV,AC [] rfl rfl ?_ ?_⟩
     ·rw[←hall,if_neg (by rw[hany];simp)]
     ·first|exact eN|refine eM ?_
     ·first|exact eN|refine eM ?_
  ·have h1:I7 l n=0:=by
    have hk:l.length≤k:=by exact eV
    rw[←hall,List.drop_eq_nil_of_le hk];rfl
   exact AH hc [.tmp 4] rfl (.inl rfl) (by simp) (by rw[h1];first|exact eR|refine Aw ?_)
end
/- Functions of grammarlabref07: numbers. -/
section
def Tc (n:Int×List (Int×Int)):List Int:=n.1 :: (n.2.length:Int) :: n.2.flatMap fun a=>[a.1,a.2]
def Bd (f:List (Int×List (Int×Int))):List Int:=(f.length:Int) :: f.flatMap Tc
def Un (l:List (Int×List (Int×Int))) (k:Nat):List Int:=(l.length:Int) :: (l.take k).flatMap Tc
def Td (l:List (Int×List (Int×Int))) (k j:Nat):List Int:=Un l k++[(l.getD k (0,[])).1,((l.getD k (0,[])).2.length:Int)]++((l.getD k (0,[])).2.take j).flatMap fun a=>[a.1,a.2]
theorem Pj:∀l:List (Int×Int),(l.flatMap fun a=>[a.1,a.2]).length=2*l.length
 | []=>rfl
 | x :: l=>by simp[Pj l];omega
theorem xC (n:Int×List (Int×Int)):(Tc n).length=2+2*n.2.length:=by
 have:=Pj n.2
 simp only[Tc,List.length_cons];omega
theorem Te:∀l:List (Int×List (Int×Int)),(∀n∈l,n.2.length≤100000)→(l.flatMap Tc).length≤l.length*200002
 | [],_=>by simp
 | x :: l,h=>by
  have h1:=h x (by simp)
  have h2:=Te l (fun n hn=>h n (by simp[hn]))
  have h3:=xC x
  simp only[List.flatMap_cons,List.length_append,List.length_cons]
  omega
theorem Z5 {l:List (Int×List (Int×Int))} (h:∀n∈l,n.2.length≤100000) {k:Nat} (hk:k≤l.length):(Un l k).length≤1+k*200002:=by
 have h1:=Te (l.take k) (fun n hn=>h n (List.mem_of_mem_take hn))
 rw[List.length_take,Nat.min_eq_left hk]at h1
 simp only[Un,List.length_cons]
 omega
theorem xD {l:List (Int×List (Int×Int))} (h:∀n∈l,n.2.length≤100000) {k j:Nat} (hk:k<l.length) (hj:j≤(l.getD k (0,[])).2.length):(Td l k j).length≤3+k*200002+2*j:=by
 have h1:=Z5 h (Nat.le_of_lt hk)
 have h2:=Pj ((l.getD k (0,[])).2.take j)
 rw[List.length_take,Nat.min_eq_left hj]at h2
 simp only[Td,List.length_append,List.length_cons,List.length_nil]
 omega
theorem WC {l:List (Int×List (Int×Int))} {k:Nat} (hk:k<l.length):Un l (k+1)=Td l k (l.getD k (0,[])).2.length:=by
 unfold Un Td
 rw[Ac l (0,[]) hk,List.flatMap_append,List.take_length]
 simp[Tc,Un]
theorem WD {l:List (Int×List (Int×Int))} {k j:Nat} (hj:j<(l.getD k (0,[])).2.length):Td l k (j+1)=Td l k j++[((l.getD k (0,[])).2.getD j (0,0)).1,((l.getD k (0,[])).2.getD j (0,0)).2]:=by
 unfold Td
 rw[Ac _ (0,0) hj,List.flatMap_append]
 simp
def Om:Af:={ ins:=[Ds],pre:=fun(f,_)=>f.length≤100000∧∀n∈f,n.2.length≤100000,out:=fun(f,_)=>[.p Ek (Bd f)] }
theorem eJ:Al Tryz.prog 108 Om:=by
 refine AU Tryz.func108 (by kernel_rfl) rfl Tryz.ntmps108 (by decide) (by kernel_rfl) (AG []) AJ ?_
 rintro w0 O0 ⟨l,u⟩ hc ⟨hl,-⟩ ⟨hp1,hp2⟩
 simp only[Om,AN]
 repeat'(first|exact trivial|refine eS rfl ?_|refine AB ?_|refine rX [0,1,2,3,4,5,6,15,38] hc ?_ ?_|refine rC ?_ ?_<;>intro AA<;>try(cases AA;done))
 refine AL (ι:={k:Nat//k≤l.length}) (fun k=>⟨[(0,.p Ds l),(1,.bp 1 [] 0),(3,.sr 10 T3 0 (Un l k.1).length),(4,.p (.int .i64) (k.1:Int))],[(1,.box 25 true [.p Fl l]),(10,.arr 3 T3 (Un l k.1))]⟩) (fun k=>l.length-k.1) ⟨0,by simp⟩ (AC [(1,.nm 1),(10,.nm 10)] rfl rfl ?_ ?_) (fun k=>?_)
 ·first|exact eN|refine eM ?_
  rfl
 ·first|exact eN|refine eM ?_
  rfl
 ·obtain⟨k,hk⟩:=k
  have hn1:=Z5 hp2 hk
  repeat'(first|exact trivial|refine eS rfl ?_|refine AB ?_|refine rX [0,1,2,3,4,5,6,15,38] hc ?_ ?_|refine rC ?_ ?_<;>intro AA<;>try(cases AA;done))
  ·exact eV
  ·refine⟨by exact eV,?_⟩
   simp only[AP];exact eV
  ·have hkl:k<l.length:=by exact eV
   have hp3:=hp2 _ (AD l (0,[]) hkl)
   refine AL (ι:={j:Nat//j≤(l.getD k (0,[])).2.length}) (fun j=>⟨[(0,.p Ds l),(1,.bp 1 [] 0),(3,.sr 10 T3 0 (Td l k j.1).length),(4,.p (.int .i64) (k:Int)),(5,.p CE (l.getD k (0,[])).2),(6,.p (.int .i64) (j.1:Int))],[(1,.box 25 true [.p Fl l]),(10,.arr 3 T3 (Td l k j.1))]⟩) (fun j=>(l.getD k (0,[])).2.length-j.1) ⟨0,by simp⟩ (AC [(1,.nm 1),(10,.nm 10)] rfl rfl ?_ ?_) (fun j=>?_)
   ·first|exact eN|refine eM ?_
    simp[Td]
   ·first|exact eN|refine eM ?_
    simp[Td]
   ·obtain⟨j,hj⟩:=j
    have hn2:=xD hp2 hkl hj
    repeat'(first|exact trivial|refine eS rfl ?_|refine AB ?_|refine rX [0,1,2,3,4,5,6,15,38] hc ?_ ?_|refine rC ?_ ?_<;>intro AA<;>try(cases AA;done))
    ·refine⟨by exact eV,by exact eV,?_⟩
     simp only[AP];exact eV
    ·exact eV
    ·have hjl:j<(l.getD k (0,[])).2.length:=by exact eV
     refine⟨⟨j+1,by exact eV⟩,by simp only;exact eV,AC [(1,.nm 1),(10,.nm 10)] rfl rfl ?_ ?_⟩
     ·first|exact eN|refine eM ?_
      exact(WD hjl).symm
     ·first|exact eN|refine eM ?_
      have:=congrArg List.length (WD (l:=l) hjl)
      rw[List.length_append]at this
      exact this.symm
    ·exact eV
    ·have hjk:j=(l.getD k (0,[])).2.length:=by exact eV
     subst hjk
     refine⟨⟨k+1,by exact eV⟩,by simp only;exact eV,AC [(1,.nm 1),(10,.nm 10)] rfl rfl ?_ ?_⟩
     ·first|exact eN|refine eM ?_
      exact(WC hkl).symm
     ·first|exact eN|refine eM ?_
      exact congrArg List.length (WC hkl).symm
  ·have hk:l.take k=l:=List.take_of_length_le (by exact eV)
   have h1:Un l k=Bd l:=by unfold Un Bd;rw[hk]
   exact AH hc [.tmp 2] rfl (.inl rfl) (by simp) (by first|exact eR|refine Aw ?_;exact h1)
end
/- Functions of grammarlabref07: Compare, Equal. -/
section
attribute [local go_sem] Om
def Jp:List Int→List Int→Int
 | x :: xs,y :: ys=>if x<y then -1 else if y<x then 1 else Jp xs ys
 | _,_=>0
theorem Pk (xs ys:List Int) {k:Nat} (h1:k<xs.length) (h2:k<ys.length):Jp (xs.drop k) (ys.drop k)=if xs.getD k 0<ys.getD k 0 then -1 else if ys.getD k 0<xs.getD k 0 then 1 else Jp (xs.drop (k+1)) (ys.drop (k+1)):=by
 rw[List.drop_eq_getElem_cons h1,List.drop_eq_getElem_cons h2,List.getD_eq_getElem?_getD,List.getElem?_eq_getElem h1,List.getD_eq_getElem?_getD,List.getElem?_eq_getElem h2]
 rfl
theorem xE (xs ys:List Int) {k:Nat} (h:xs.length≤k∨ys.length≤k):Jp (xs.drop k) (ys.drop k)=0:=by
 rcases h with h|h
 ·rw[List.drop_eq_nil_of_le h];simp[Jp]
 ·rw[List.drop_eq_nil_of_le h];simp[Jp]
def Cv (a b:List (Int×List (Int×Int))):Int:=Jp (Bd a) (Bd b)
def Ej (f:List (Int×List (Int×Int))):Prop:=f.length≤100000∧∀n∈f,n.2.length≤100000
def Oo:Af:={ ins:=[Ds,Ds],pre:=fun(a,b,_)=>Ej a∧Ej b,out:=fun(a,b,_)=>[.p T3 (Cv a b)] }
theorem Oq {f:List (Int×List (Int×Int))} (h:Ej f):(Bd f).length≤1+f.length*200002:=by
 have:=Te f h.2
 simp only[Bd,List.length_cons];omega
theorem eK:Al Tryz.prog 69 Oo:=by
 refine AU Tryz.func69 (by kernel_rfl) rfl Tryz.ntmps69 (by decide) (by kernel_rfl) (AG [(108,Om)]) (AF eJ AJ) ?_
 rintro w0 O0 ⟨a,b,u⟩ hc-⟨⟨ha1,ha2⟩,⟨hb1,hb2⟩⟩
 have hla:=Oq ⟨ha1,ha2⟩
 have hlb:=Oq ⟨hb1,hb2⟩
 simp only[Oo,AN]
 repeat'(first|exact trivial|refine eS rfl ?_|refine AB ?_|refine rX [0,1,2,3,4,5,6,7,21,32,41] hc ?_ ?_|refine rC ?_ ?_<;>intro AA<;>try(cases AA;done))
 ·exact⟨ha1,ha2⟩
 ·exact⟨hb1,hb2⟩
 ·refine AL (ι:={k:Nat//Jp ((Bd a).drop k) ((Bd b).drop k)=Cv a b}) (fun k=>⟨[(5,.p Ek (Bd a)),(6,.p Ek (Bd b)),(7,.p (.int .i64) (k.1:Int))],[]⟩) (fun k=>(Bd a).length-k.1) ⟨0,by simp[Cv]⟩ (AC [] rfl rfl ?_ ?_) (fun k=>?_)
  ·first|exact eN|refine eM ?_
  ·first|exact eN|refine eM ?_
  ·obtain⟨k,hk⟩:=k
   repeat'(first|exact trivial|refine eS rfl ?_|refine AB ?_|refine rX [0,1,2,3,4,5,6,7,21,32,41] hc ?_ ?_|refine rC ?_ ?_<;>intro AA<;>try(cases AA;done))
   ·exact eV
   ·obtain⟨h1,h2⟩:k<(Bd a).length∧k<(Bd b).length:=by exact eV
    have h3:Cv a b=-1:=by rw[←hk,Pk _ _ h1 h2,if_pos AA]
    exact AH hc [.tmp 4] rfl (.inl rfl) (by simp) (by rw[h3];first|exact eR|refine Aw ?_)
   ·exact eV
   ·obtain⟨h1,h2⟩:k<(Bd a).length∧k<(Bd b).length:=by exact eV
    have h3:Cv a b=1:=by rw[←hk,Pk _ _ h1 h2,if_neg (by exact eV),if_pos AA]
    exact AH hc [.tmp 4] rfl (.inl rfl) (by simp) (by rw[h3];first|exact eR|refine Aw ?_)
   ·exact eV
   ·obtain⟨h1,h2⟩:k<(Bd a).length∧k<(Bd b).length:=by exact eV
    refine⟨⟨k+1,?_⟩,by simp only;exact eV,AC [] rfl rfl ?_ ?_⟩
    ·rw[←hk,Pk _ _ h1 h2,if_neg (by exact eV),if_neg (by exact eV)]
    ·first|exact eN|refine eM ?_
    ·first|exact eN|refine eM ?_
   ·have h3:Cv a b=0:=by
     rw[←hk]
     apply xE
     by_cases h:k<(Bd a).length
     ·right;have:=AA (by exact eV);exact eV
     ·left;exact eV
    exact AH hc [.tmp 4] rfl (.inl rfl) (by simp) (by rw[h3];first|exact eR|refine Aw ?_)
def Hc:Af:={ ins:=[Ds,Ds],pre:=fun(a,b,_)=>Ej a∧Ej b,out:=fun(a,b,_)=>[.p .bool (Cv a b==0)] }
end
/- Functions of grammarlabref07: Equal, form. -/
section
attribute [local go_sem] Oo oD
theorem Tf:Al Tryz.prog 20 Hc:=by
 refine AU Tryz.func20 (by kernel_rfl) rfl Tryz.ntmps20 (by decide) (by kernel_rfl) (AG [(69,Oo)]) (AF eK AJ) ?_
 rintro w0 O0 ⟨a,b,u⟩ hc-hpre
 simp only[Hc,AN]
 repeat'(first|exact trivial|refine eS rfl ?_|refine AB ?_|refine rX [0,1,2,3,4] hc ?_ ?_|refine rC ?_ ?_<;>intro AA<;>try(cases AA;done))
 ·exact hpre
 ·exact AH hc [.tmp 4] rfl (.inl rfl) (by simp) (by first|exact eR|refine Aw ?_)
def KD (m:Int):List (Int×List (Int×Int))→Int
 | []=>0
 | n :: r=>if n.1<0 then 2 else if I7 n.2 m≠0 then I7 n.2 m else KD m r
def EO (f:List (Int×List (Int×Int))):Int:=if f.length=0 then 1 else if 4096<f.length then 7 else KD f.length f
def oE:Af:={ ins:=[Ds],pre:=fun _=>True,out:=fun(f,_)=>[.p ZO (EO f)] }
theorem NI (m:Int) (l:List (Int×List (Int×Int))) {k:Nat} (h:k<l.length):KD m (l.drop k)=if (l.getD k (0,[])).1<0 then 2 else if I7 (l.getD k (0,[])).2 m≠0 then I7 (l.getD k (0,[])).2 m else KD m (l.drop (k+1)):=by
 rw[List.drop_eq_getElem_cons h,List.getD_eq_getElem?_getD,List.getElem?_eq_getElem h]
 rfl
theorem A24:Al Tryz.prog 110 oE:=by
 refine AU Tryz.func110 (by kernel_rfl) rfl Tryz.ntmps110 (by decide) (by kernel_rfl) (AG [(146,oD)]) (AF A23 AJ) ?_
 rintro w0 O0 ⟨l,u⟩ hc ⟨hl,-⟩ -
 simp only[oE,AN]
 repeat'(first|exact trivial|refine eS rfl ?_|refine AB ?_|refine rX [0,1,2,3,4,8,12,17,26,38] hc ?_ ?_|refine rC ?_ ?_<;>intro AA<;>try(cases AA;done))
 ·have h1:EO l=1:=by
   have h:l.length=0:=by exact eV
   unfold EO
   rw[if_pos h]
  exact AH hc [.tmp 2] rfl (.inl rfl) (by simp) (by rw[h1];first|exact eR|refine Aw ?_)
 ·have h1:EO l=7:=by
   have h:¬l.length=0:=by exact eV
   have h':4096<l.length:=by exact eV
   unfold EO
   rw[if_neg h,if_pos h']
  exact AH hc [.tmp 2] rfl (.inl rfl) (by simp) (by rw[h1];first|exact eR|refine Aw ?_)
 ·have h1:EO l=KD l.length l:=by
   have h:¬l.length=0:=by exact eV
   have h':¬4096<l.length:=by exact eV
   unfold EO
   rw[if_neg h,if_neg h']
  refine AL (ι:={k:Nat//k≤l.length∧KD l.length (l.drop k)=EO l}) (fun k=>⟨[(1,.bp 1 [] 0),(3,.p (.int .i64) (k.1:Int))],[(1,.box 25 true [.p Fl l])]⟩) (fun k=>l.length-k.1) ⟨0,by simp[h1]⟩ (AC [(1,.nm 1)] rfl rfl ?_ ?_) (fun k=>?_)
  ·first|exact eN|refine eM ?_
  ·first|exact eN|refine eM ?_
  ·obtain⟨k,hk,hf⟩:=k
   repeat'(first|exact trivial|refine eS rfl ?_|refine AB ?_|refine rX [0,1,2,3,4,8,12,17,26,38] hc ?_ ?_|refine rC ?_ ?_<;>intro AA<;>try(cases AA;done))
   ·exact eV
   ·have hkl:k<l.length:=by exact eV
    have h2:EO l=2:=by rw[←hf,NI _ _ hkl,if_pos AA]
    exact AH hc [.tmp 2] rfl (.inl rfl) (by simp) (by rw[h2];first|exact eR|refine Aw ?_)
   ·exact eV
   ·have hkl:k<l.length:=by exact eV
    have h2:EO l=I7 (l.getD k (0,[])).2 l.length:=by rw[←hf,NI _ _ hkl,if_neg (by exact eV),if_pos AA]
    exact AH hc [.tmp 2] rfl (.inl rfl) (by simp) (by rw[h2];first|exact eR|refine Aw ?_)
   ·exact eV
   ·have hkl:k<l.length:=by exact eV
    refine⟨⟨k+1,by exact eV,?_⟩,by simp only;exact eV,AC [(1,.nm 1)] rfl rfl ?_ ?_⟩
    ·rw[←hf,NI _ _ hkl,if_neg (by exact eV),if_neg (by simpa using AA)]
    ·first|exact eN|refine eM ?_
    ·first|exact eN|refine eM ?_
   ·have h2:EO l=0:=by
     have hk:l.length≤k:=by exact eV
     rw[←hf,List.drop_eq_nil_of_le hk];rfl
    exact AH hc [.tmp 2] rfl (.inl rfl) (by simp) (by rw[h2];first|exact eR|refine Aw ?_)
end
/- The contract of functions of the program: Sorted. -/
section
def KK (x:Int×Int) (s:List (Int×Int)):Nat→Nat
 | 0=>0
 | n+1=>if x.1<(s.getD n (0,0)).1 then KK x s n else n+1
def Pl (s:List (Int×Int)) (x:Int×Int):List (Int×Int):=s.take (KK x s s.length)++[x]++s.drop (KK x s s.length)
def Am (l:List (Int×Int)):List (Int×Int):=l.foldl Pl []
theorem Xp (x:Int×Int) (s:List (Int×Int)):∀n,KK x s n≤n
 | 0=>Nat.le_refl _
 | n+1=>by
  unfold KK
  have:=Xp x s n
  split<;>omega
theorem xF (s:List (Int×Int)) (x:Int×Int):(Pl s x).length=s.length+1:=by
 have:=Xp x s s.length
 simp[Pl];omega
theorem Jq (l:List (Int×Int)) (x:Int×Int):Am (l++[x])=Pl (Am l) x:=by simp[Am]
theorem K9:∀(l s:List (Int×Int)),(l.foldl Pl s).length=s.length+l.length
 | [],s=>by simp
 | x :: l,s=>by simp[K9 l,xF];omega
theorem IA (l:List (Int×Int)):(Am l).length=l.length:=by simp[Am,K9]
def Jr:Af:={ ins:=[CE],pre:=fun(l,_)=>l.length≤1000000,out:=fun(l,_)=>[.own 108 Aq (Am l)] }
theorem WE:Al Tryz.prog 145 Jr:=by
 refine AU Tryz.func145 (by kernel_rfl) rfl Tryz.ntmps145 (by decide) (by kernel_rfl) (AG []) AJ ?_
 rintro w0 O0 ⟨l,u⟩ hc hok hpre
 simp only[Jr]at hpre
 simp only[Jr,AN]
 repeat'(first|exact trivial|refine eS rfl ?_|refine AB ?_|refine rX [0,2,3,4,5,6,10,30] hc ?_ ?_|refine rC ?_ ?_<;>intro AA<;>try(cases AA;done))
 refine AL (ι:={p:Nat//p≤l.length}) (fun k=>⟨[(0,.p CE l),(3,.sr 10 Aq 0 (Am (l.take k.1)).length),(4,.p (.int .i64) (k.1:Int))],[(10,.arr 108 Aq (Am (l.take k.1)))]⟩) (fun k=>l.length-k.1) ⟨0,by omega⟩ (AC [(10,.nil)] rfl rfl ?_ ?_) (fun k=>?_)
 ·first|exact eN|refine eM ?_
  rfl
 ·first|exact eN|refine eM ?_
  rfl
 ·obtain⟨k,hI⟩:=k
  have hlen:(Am (l.take k)).length=k:=by rw[IA,List.length_take];exact Nat.min_eq_left hI
  repeat'(first|exact trivial|refine eS rfl ?_|refine AB ?_|refine rX [0,2,3,4,5,6,10,30] hc ?_ ?_|refine rC ?_ ?_<;>intro AA<;>try(cases AA;done))
  ·refine AL (ι:={q:Nat//q≤(Am (l.take k)).length∧KK (l.getD k (0,0)) (Am (l.take k)) q=KK (l.getD k (0,0)) (Am (l.take k)) (Am (l.take k)).length}) (fun q=>⟨[(0,.p CE l),(3,.sr 10 Aq 0 (Am (l.take k)).length),(4,.p (.int .i64) (k:Int)),(5,.p (.int .i64) (q.1:Int))],[(10,.arr 108 Aq (Am (l.take k)))]⟩) (fun q=>q.1) ⟨(Am (l.take k)).length,by simp⟩ (AC [(10,.nm 10)] rfl rfl ?_ ?_) (fun q=>?_)
   ·first|exact eN|refine eM ?_
   ·first|exact eN|refine eM ?_
   ·obtain⟨q,hq,hp⟩:=q
    have hkl:k<l.length:=by omega
    have e1:=l.length_take_le k
    have e2:(List.take q (Am (List.take k l))).length=q:=by rw[List.length_take];exact Nat.min_eq_left hq
    repeat'(first|exact trivial|refine eS rfl ?_|refine AB ?_|refine rX [0,2,3,4,5,6,10,30] hc ?_ ?_|refine rC ?_ ?_<;>intro AA<;>try(cases AA;done))
    ·exact eV
    ·exact eV
    ·obtain⟨h1,h2⟩:=AA
     obtain⟨q,rfl⟩:∃r,q=r+1:=⟨q-1,by omega⟩
     have h3:((q+1:Nat):Int)-1=(q:Int):=by omega
     refine⟨⟨q,by omega,?_⟩,Nat.lt_succ_self q,AC [(10,.nm 10)] rfl rfl ?_ ?_⟩
     ·rw[←hp]
      simp only[KK]
      rw[h3,Int.toNat_natCast]at h2
      rw[if_pos h2]
     ·first|exact eN|refine eM ?_
     ·first|exact eN|refine eM ?_
      show (q:Int)+1-1=q
      omega
    ·refine⟨by exact eV,?_⟩
     rw[e2];unfold AP;omega
    ·refine⟨by exact eV,?_⟩
     rw[e2];simp only[AP];omega
    ·refine⟨by exact eV,?_⟩
     rw[e2];simp only[AP,List.length_drop];omega
    ·exact eV
    ·have hpos:KK (l.getD k (0,0)) (Am (l.take k)) q=q:=by
      cases q with
      | zero=>rfl
      | succ q =>
       have h3:((q+1:Nat):Int)-1=(q:Int):=by omega
       have:=AA (by omega)
       rw[h3,Int.toNat_natCast]at this
       simp only[KK]
       rw[if_neg (by omega)]
     have h1:=Ac l (0,0) hkl
     have h2:Am (l.take (k+1))=_:=(congrArg Am h1).trans (Jq _ _)
     unfold Pl at h2
     rw[←hp,hpos]at h2
     refine⟨⟨k+1,by exact eV⟩,by simp only;exact eV,AC [(10,.nm 37)] rfl rfl ?_ ?_⟩
     ·first|exact eN|refine eM ?_
      exact h2.symm
     ·first|exact eN|refine eM ?_
      have h4:=congrArg List.length h2
      rw[List.length_append,List.length_append]at h4
      exact h4.symm
  ·have hk:l.take k=l:=List.take_of_length_le (by exact eV)
   refine SO hc (.inl rfl) (rv:=.tmp 2) rfl ?_
   simp only[Kh,Iq,Ir,go_sem,Nat.reduceEqDiff,reduceCtorEq,Nat.reduceAdd,Nat.reduceSub,Nat.reduceMul,Nat.reduceLeDiff,Nat.reduceLT,Int.reduceLE,Int.reduceToNat,Int.reduceNeg,↓reduceIte]
   rw[hk]
   first|rfl|exact⟨rfl,rfl⟩|exact⟨rfl,rfl,rfl⟩
end
/- Functions of grammarlabref07: visit. -/
section
attribute [local go_sem] Jr
abbrev AE:=Int×List (Int×Int)
def Dj (f:List AE):Nat→List Int×List Int→Int→List Int×List Int
 | 0,s,_=>s
 | k+1,s,n=>(Am (f.getD n.toNat (0,[])).2).foldl (fun s a=>if s.1.getD a.2.toNat 0<0 then Dj f k s a.2 else s) (s.1.set n.toNat (s.2.length:Int),s.2++[n])
def KL (l:List Int):Nat:=l.countP (fun x=>decide (x<0))
def AY (f:List AE):Prop:=f.length≤100000∧∀x∈f,x.2.length≤100000∧∀a∈x.2,0≤a.2∧a.2<(f.length:Int)
def RR (f:List AE) (s:List Int×List Int):Prop:=s.1.length=f.length∧s.2.length+KL s.1≤f.length
theorem xG {l:List Int} {n:Nat} {v:Int} (hn:n<l.length) (hneg:l.getD n 0<0) (hv:0≤v):KL (l.set n v)+1=KL l:=by
 induction l generalizing n with
 | nil=>simp at hn
 | cons x r ih =>
  cases n with
  | zero =>
   have hx:x<0:=by simpa using hneg
   have:¬v<0:=by omega
   simp[KL,List.countP_cons,hx,this]
  | succ n =>
   have h1:=ih (n:=n) (by simpa using hn) (by simpa using hneg)
   simp only[KL,List.set_cons_succ,List.countP_cons]at h1 ⊢
   omega
theorem eL {f:List AE} {s:List Int×List Int} {n:Int} (h:RR f s) (hn0:0≤n) (hn:n<f.length) (hneg:s.1.getD n.toNat 0<0) :
  RR f (s.1.set n.toNat (s.2.length:Int),s.2++[n])∧KL (s.1.set n.toNat (s.2.length:Int))+1=KL s.1:=by
 obtain⟨h1,h2⟩:=h
 have h3:=xG (l:=s.1) (n:=n.toNat) (v:=(s.2.length:Int)) (by omega) hneg (by omega)
 refine⟨⟨by simpa using h1,?_⟩,h3⟩
 simp only[List.length_append,List.length_singleton]
 omega
theorem rV (s:List (Int×Int)) (x:Int×Int):(Pl s x).Perm (x :: s):=by
 unfold Pl
 refine(List.perm_append_comm.append_right _).trans ?_
 simp
theorem KE:∀(l s:List (Int×Int)),(l.foldl Pl s).Perm (l++s)
 | [],s=>List.Perm.refl _
 | x :: l,s=>by
  refine(KE l (Pl s x)).trans ?_
  refine(List.Perm.append_left l (rV s x)).trans ?_
  exact List.perm_middle
theorem Dk (l:List (Int×Int)):(Am l).Perm l:=by
 have:=KE l []
 simpa[Am] using this
theorem LA {f:List AE} (hf:AY f) (n:Int):List.length (f.getD n.toNat (0,[])).2≤100000:=by
 by_cases h:n.toNat<f.length
 ·have hm:f.getD n.toNat (0,[])∈f:=by
   rw[List.getD_eq_getElem?_getD,List.getElem?_eq_getElem h];exact List.getElem_mem h
  exact(hf.2 _ hm).1
 ·rw[List.getD_eq_getElem?_getD,List.getElem?_eq_none (by omega)]
  simp
theorem Rq {f:List AE} (hf:AY f) {n:Int} {a:Int×Int} (ha:a∈Am (f.getD n.toNat (0,[])).2):0≤a.2∧a.2<f.length:=by
 have ha:=(Dk _).mem_iff.1 ha
 by_cases h:n.toNat<f.length
 ·have hm:f.getD n.toNat (0,[])∈f:=by
   rw[List.getD_eq_getElem?_getD,List.getElem?_eq_getElem h];exact List.getElem_mem h
  exact(hf.2 _ hm).2 a ha
 ·rw[List.getD_eq_getElem?_getD,List.getElem?_eq_none (by omega)]at ha
  simp at ha
def EB (f:List AE) (k:Nat) (s:List Int×List Int) (a:Int×Int):List Int×List Int:=if s.1.getD a.2.toNat 0<0 then Dj f k s a.2 else s
theorem FG (f:List AE) (k:Nat) (s:List Int×List Int) (n:Int):Dj f (k+1) s n=(Am (f.getD n.toNat (0,[])).2).foldl (EB f k) (s.1.set n.toNat (s.2.length:Int),s.2++[n]):=rfl
theorem Rr {f:List AE} {k:Nat} (hv:∀(s:List Int×List Int) (n:Int),RR f s→0≤n→n<f.length→s.1.getD n.toNat 0<0→RR f (Dj f k s n)∧KL (Dj f k s n).1≤KL s.1) :
  ∀(l:List (Int×Int)) (t:List Int×List Int),(∀a∈l,0≤a.2∧a.2<(f.length:Int))→RR f t→RR f (l.foldl (EB f k) t)∧KL (l.foldl (EB f k) t).1≤KL t.1
 | [],t,_,ht=>⟨ht,Nat.le_refl _⟩
 | a :: l,t,hl,ht=>by
  simp only[List.foldl_cons]
  by_cases hc:t.1.getD a.2.toNat 0<0
  ·obtain⟨g1,g2⟩:=hv t a.2 ht (hl a (by simp)).1 (hl a (by simp)).2 hc
   have e:EB f k t a=Dj f k t a.2:=if_pos hc
   rw[e]
   obtain⟨g3,g4⟩:=Rr hv l _ (fun b hb=>hl b (by simp[hb])) g1
   exact⟨g3,Nat.le_trans g4 g2⟩
  ·have e:EB f k t a=t:=if_neg hc
   rw[e]
   exact Rr hv l t (fun b hb=>hl b (by simp[hb])) ht
theorem Pm {f:List AE} (hf:AY f):∀(k:Nat) (s:List Int×List Int) (n:Int),RR f s→0≤n→n<f.length→s.1.getD n.toNat 0<0→RR f (Dj f k s n)∧KL (Dj f k s n).1≤KL s.1
 | 0,s,n,h,_,_,_=>⟨h,Nat.le_refl _⟩
 | k+1,s,n,h,h0,h1,h2=>by
  obtain⟨h3,h4⟩:=eL h h0 h1 h2
  obtain⟨g1,g2⟩:=Rr (Pm hf k) _ _ (fun a ha=>Rq hf ha) h3
  rw[FG]
  exact⟨g1,by simp only at g2 h4;omega⟩
theorem Pn {α β:Type} (g:β→α→β) (l:List α) (d:α) (t:β) {i:Nat} (hi:i<l.length):(l.take (i+1)).foldl g t=g ((l.take i).foldl g t) (l.getD i d):=by
 rw[Ac l d hi,List.foldl_append];rfl
def KF (f:List AE) (s:List Int×List Int):List (Nat×Obj):=[(1,.box 205 true [.p Ds f,.sr 2 T3 0 s.1.length,.sr 3 T3 0 s.2.length]),(2,.arr 3 T3 s.1),(3,.arr 3 T3 s.2)]
theorem xH (f:List AE) (hf:AY f):∀(k:Nat) (s:List Int×List Int) (n:Int),RR f s→0≤n→n<f.length→s.1.getD n.toNat 0<0→KL s.1≤k →
  B8 Tryz.prog 144 [.bp 1 [] 0,.p T3 n] (KF f s) [1] (fun res objs'=>res=.raw (.tuple #[])∧objs'=KF f (Dj f k s n)):=by
 intro k
 induction k with
 | zero =>
  intro s n h0 h1 h2 h3 h4
  obtain⟨_,h5⟩:=eL h0 h1 h2 h3
  omega
 | succ k ih =>
  intro s n htr hn0 hn1 hneg hk
  obtain⟨num,ord⟩:=s
  obtain⟨htr',hcnt⟩:=eL htr hn0 hn1 hneg
  obtain⟨hl1,hl2⟩:=htr
  simp only at hl1 hl2 hneg htr' hcnt hk
  refine CQ Tryz.func144 (by kernel_rfl) rfl Tryz.ntmps144 (by simp only[List.length_cons,List.length_nil];omega) (by kernel_rfl) rfl rfl (AG [(145,Jr)]) (AF WE AJ) ?_
  intro w0 K O0 ρ0 hc hok1 hok2
  simp only[KF,BG]
  repeat'(first|exact trivial|refine eS rfl ?_|refine AB ?_|refine rX [0,1,4,5,40,54] hc ?_ ?_|refine rC ?_ ?_<;>intro AA<;>try(cases AA;done))
  ·exact eV
  ·have:=hf.1
   simp only[AP];omega
  ·have hm:=LA hf n
   exact⟨⟨hn0,hn1⟩,Nat.le_trans hm (by omega)⟩
  ·have harcs:=fun a (ha:a∈Am (f.getD n.toNat (0,[])).2)=>Rq hf ha
   have hLlen:(Am (f.getD n.toNat (0,[])).2).length≤100000:=by rw[IA];exact LA hf n
   generalize hL:Am (f.getD n.toNat (0,[])).2=L at harcs hLlen
   generalize hs1:(num.set n.toNat (ord.length:Int),ord++[n])=s1 at htr'
   have hfold:∀i,RR f ((L.take i).foldl (EB f k) s1)∧KL ((L.take i).foldl (EB f k) s1).1≤KL s1.1:=fun i=>Rr (Pm hf k) _ _ (fun a ha=>harcs a (List.mem_of_mem_take ha)) htr'
   have hn1:num.set n.toNat (ord.length:Int)=s1.1:=by rw[←hs1]
   have ho1:ord++[n]=s1.2:=by rw[←hs1]
   rw[hn1]at hcnt
   refine AL (ι:={i:Nat//i≤L.length}) (fun i=>⟨[(0,.bp 1 [] 0),(1,.p T3 n),(4,.p CE L),(5,.p (.int .i64) (i.1:Int))],KF f ((L.take i.1).foldl (EB f k) s1)⟩) (fun i=>L.length-i.1) ⟨0,by omega⟩ (A4u [36] (AC [(1,.nm 1),(2,.nm 2),(3,.nm 3)] rfl rfl ?_ ?_)) (fun i=>?_)
   ·simp only[KF]
    first|exact eN|refine eM ?_
    simp only[List.foldl_nil]
    rw[←hs1]
    simp
   ·first|exact eN|refine eM ?_
   ·obtain⟨i,hi⟩:=i
    obtain⟨hti,hci⟩:=hfold i
    have hnext:=fun(h:i<L.length)=>Pn (EB f k) L (0,0) s1 h
    generalize hsi:(L.take i).foldl (EB f k) s1=si at hti hci hnext
    simp only[KF]
    repeat'(first|exact trivial|refine eS rfl ?_|refine AB ?_|refine rX [0,1,4,5,40,54] hc ?_ ?_|refine rC ?_ ?_<;>intro AA<;>try(cases AA;done))
    ·have hiL:i<L.length:=by exact eV
     have:=harcs _ (AD L (0,0) hiL)
     obtain⟨h1,h2⟩:=hti
     refine⟨by exact eV,this.1,?_⟩
     rw[h1]
     exact this.2
    ·have hiL:i<L.length:=by exact eV
     have hr:=harcs _ (AD L (0,0) hiL)
     refine cP 6 hc ?_ ?_
     ·exact eV
     ·refine rM hc (ih si (L.getD i (0,0)).2 hti hr.1 hr.2 (by simpa using AA) (by omega)) [(1,.nm 1),(2,.nm 2),(3,.nm 3)] [2,3] ?_ ?_ ?_
      ·first|exact eN|refine eM ?_
      ·simp only[KF]
       first|exact eN|refine eM ?_
      ·rintro _ _ ⟨rfl,rfl⟩
       refine⟨[(1,.nm 1),(2,.nm 2),(3,.nm 3)],.raw (.tuple #[]),KF f (Dj f k si (L.getD i (0,0)).2),rfl,rfl,?_,?_,rfl,rfl,Dc ?_⟩
       ·simp only[KF]
        first|exact eN|refine eM ?_
       ·first|exact eN|refine eM ?_
       ·repeat'(first|exact trivial|refine eS rfl ?_|refine AB ?_|refine rX [0,1,4,5,40,54] hc ?_ ?_|refine rC ?_ ?_<;>intro AA<;>try(cases AA;done))
        ·exact eV
        ·have e:EB f k si (L.getD i (0,0))=Dj f k si (L.getD i (0,0)).2:=if_pos (by simpa using AA)
         refine⟨⟨i+1,by omega⟩,by simp only;omega,AC [(1,.nm 1),(2,.nm 2),(3,.nm 3)] rfl rfl ?_ ?_⟩
         ·simp only[KF,hnext hiL,e]
          first|exact eN|refine eM ?_
         ·first|exact eN|refine eM ?_
    ·exact eV
    ·have hiL:i<L.length:=by exact eV
     have e:EB f k si (L.getD i (0,0))=si:=if_neg (by simpa using AA)
     refine⟨⟨i+1,by omega⟩,by simp only;omega,AC [(1,.nm 1),(2,.nm 2),(3,.nm 3)] rfl rfl ?_ ?_⟩
     ·simp only[hnext hiL,e]
      first|exact eN|refine eM ?_
     ·first|exact eN|refine eM ?_
    ·have hk:L.take i=L:=List.take_of_length_le (by exact eV)
     rw[hk]at hsi
     have h1:Dj f (k+1) (num,ord) n=si:=by rw[FG,hL,←hsi,←hs1]
     rw[h1]
     exact BE hc [] rfl (.inr rfl) (.raw (.tuple #[])) rfl ⟨rfl,rfl⟩
end
/- Functions of grammarlabref07: From. -/
section
attribute [local go_sem] Jr
def Z6 (f:List AE) (s:List Int×List Int):Prop:=∀n∈s.2,0≤n∧n<(f.length:Int)
theorem Tg {f:List AE} (hf:AY f):∀(k:Nat) (s:List Int×List Int) (n:Int),Z6 f s→0≤n→n<f.length→Z6 f (Dj f k s n)
 | 0,s,n,h,_,_=>h
 | k+1,s,n,h,h0,h1=>by
  rw[FG]
  have key:∀(l:List (Int×Int)) (t:List Int×List Int),(∀a∈l,0≤a.2∧a.2<(f.length:Int))→Z6 f t→Z6 f (l.foldl (EB f k) t):=by
   intro l
   induction l with
   | nil=>intro t _ ht;exact ht
   | cons a l ih =>
    intro t hl ht
    simp only[List.foldl_cons]
    refine ih _ (fun b hb=>hl b (by simp[hb])) ?_
    unfold EB
    split
    ·exact Tg hf k t a.2 ht (hl a (by simp)).1 (hl a (by simp)).2
    ·exact ht
  refine key _ _ (fun a ha=>Rq hf ha) ?_
  intro m hm
  simp only[List.mem_append,List.mem_singleton]at hm
  rcases hm with hm|rfl
  ·exact h m hm
  ·exact⟨h0,h1⟩
def Gk (f:List AE) (root:Int):List Int×List Int:=Dj f f.length (List.replicate f.length (-1),[]) root
def Uo (num:List Int) (a:Int×Int):Int×Int:=(a.1,num.getD a.2.toNat 0)
def LB (f:List AE) (num:List Int) (n:Int):AE:=((f.getD n.toNat (0,[])).1,(Am (f.getD n.toNat (0,[])).2).map (Uo num))
def Gl (f:List AE) (root:Int):List AE:=(Gk f root).2.map (LB f (Gk f root).1)
theorem Z7 (m:Nat):KL (List.replicate m (-1))=m:=by
 induction m with
 | zero=>rfl
 | succ m ih=>simp only[KL,List.replicate_succ,List.countP_cons]at ih ⊢;simp[ih]
theorem tr0 (f:List AE):RR f (List.replicate f.length (-1),[]):=⟨by simp,by simp[Z7]⟩
theorem oG {f:List AE} {n:Int} (h0:0≤n) (h1:n<f.length):(List.replicate f.length (-1:Int)).getD n.toNat 0<0:=by
 have:n.toNat<f.length:=by omega
 simp[List.getD_eq_getElem?_getD,List.getElem?_replicate,this]
theorem oH {f:List AE} (hf:AY f) {n:Int} (h0:0≤n) (h1:n<f.length):RR f (Gk f n)∧Z6 f (Gk f n) :=
 ⟨(Pm hf _ _ n (tr0 f) h0 h1 (oG h0 h1)).1,Tg hf _ _ n (fun m hm=>by simp at hm) h0 h1⟩
theorem Th {α β:Type} (g:α→β) (h:β→α) (L:List α) (d:α) {k:Nat} (hk:k<L.length) (u:α→α):((L.take k).map u++L.drop k).set k (u (L.getD k d))=(L.take (k+1)).map u++L.drop (k+1)∧((L.take k).map u++L.drop k).getD k d=L.getD k d:=by
 have h1:((L.take k).map u).length=k:=by simp;omega
 have h2:L.drop k=L.getD k d :: L.drop (k+1):=by
  rw[List.drop_eq_getElem_cons hk,List.getD_eq_getElem?_getD,List.getElem?_eq_getElem hk];rfl
 constructor
 ·rw[Ac L d hk,List.set_append_right _ _ (by omega),h1,Nat.sub_self,h2]
  simp
 ·rw[List.getD_eq_getElem?_getD,List.getElem?_append_right (by omega),h1,Nat.sub_self,h2];rfl
def WF:Af:={ ins:=[Ds,T3],pre:=fun(f,n,_)=>AY f∧0≤n∧n<(List.length f:Int),out:=fun(f,n,_)=>[.p Ds (Gl f n)] }
theorem oI:Al Tryz.prog 107 WF:=by
 refine AU Tryz.func107 (by kernel_rfl) rfl Tryz.ntmps107 (by decide) (by kernel_rfl) (AG [(145,Jr)]) (AF WE AJ) ?_
 rintro w0 O0 ⟨f,root,u⟩ hc-⟨hf,hr0,hr1⟩
 simp only[WF,AN]
 have hfl:=hf.1
 repeat'(first|exact trivial|refine eS rfl ?_|refine AB ?_|refine rX [0,1,2,4,5,6,7,8,9,10,11,19,40,60] hc ?_ ?_|refine rC ?_ ?_<;>intro AA<;>try(cases AA;done))
 refine AL (ι:={i:Nat//i≤f.length}) (fun i=>⟨[(1,.p T3 root),(2,.bp 2 [] 0),(4,.bp 4 [] 0),(5,.bp 14 [] 0),(6,.p (.int .i64) (i.1:Int))],[(2,.box 25 true [.p Fl f]),(4,.box 25 true [.raw (.slice none 0 0)]),(14,.box 205 true [.p Ds f,.sr 10 T3 0 i.1,.raw (.slice none 0 0)]),(10,.arr 3 T3 (List.replicate i.1 (-1)))]⟩) (fun i=>f.length-i.1) ⟨0,by omega⟩ (AC [(2,.nm 2),(4,.nm 4),(14,.nm 14),(10,.nil)] rfl rfl ?_ ?_) (fun i=>?_)
 ·first|exact eN|refine eM ?_
  rfl
 ·first|exact eN|refine eM ?_
 ·obtain⟨i,hi⟩:=i
  repeat'(first|exact trivial|refine eS rfl ?_|refine AB ?_|refine rX [0,1,2,4,5,6,7,8,9,10,11,19,40,60] hc ?_ ?_|refine rC ?_ ?_<;>intro AA<;>try(cases AA;done))
  ·simp only[AP];omega
  ·exact eV
  ·have hi:i<List.length f:=by exact eV
   refine⟨⟨i+1,by omega⟩,by simp only;omega,AC [(2,.nm 2),(4,.nm 4),(14,.nm 14),(10,.nm 10)] rfl rfl ?_ ?_⟩
   ·first|exact eN|refine eM ?_
    rw[List.replicate_succ']
    simp
   ·first|exact eN|refine eM ?_
  ·have hif:i=List.length f:=by exact eV
   subst hif
   have hvo:=oH hf hr0 hr1
   refine cP 2 hc ?_ ?_
   ·trivial
   ·refine rM hc (xH f hf (List.length f) (List.replicate (List.length f) (-1),[]) root (tr0 f) hr0 hr1 (oG hr0 hr1) (by rw[Z7];exact Nat.le_refl _)) [(1,.nm 14),(2,.nm 10),(3,.nil)] [10] ?_ ?_ ?_
    ·first|exact eN|refine eM ?_
    ·simp only[KF]
     first|exact eN|refine eM ?_
     simp
    ·rintro _ _ ⟨rfl,rfl⟩
     refine⟨[(14,.nm 1),(101,.nm 2),(102,.nm 3)],.raw (.tuple #[]),[(14,.box 205 true [.p Ds f,.sr 101 T3 0 (Gk f root).1.length,.sr 102 T3 0 (Gk f root).2.length]),(101,.arr 3 T3 (Gk f root).1),(102,.arr 3 T3 (Gk f root).2)],rfl,rfl,?_,?_,rfl,rfl,Dc ?_⟩
     ·simp only[KF,Gk]
      first|exact eN|refine eM ?_
     ·first|exact eN|refine eM ?_
     ·have hfrom:Gl f root=(Gk f root).2.map (LB f (Gk f root).1):=rfl
      rw[hfrom]
      generalize Gk f root=s at hvo
      obtain⟨num,ord⟩:=s
      obtain⟨⟨hn1,hn2⟩,hord⟩:=hvo
      simp only at hn1 hn2
      have hord:∀n∈ord,0≤n∧n<(List.length f:Int):=hord
      repeat'(first|exact trivial|refine eS rfl ?_|refine AB ?_|refine rX [0,1,2,4,5,6,7,8,9,10,11,19,40,60] hc ?_ ?_|refine rC ?_ ?_<;>intro AA<;>try(cases AA;done))
      refine AL (ι:={i:Nat//i≤ord.length}) (fun i=>⟨[(2,.bp 2 [] 0),(4,.bp 4 [] 0),(5,.bp 14 [] 0),(7,.bp 7 [] 0),(8,.p (.int .i64) (i.1:Int))],[(2,.box 25 true [.p Fl f]),(4,.box 25 true [.raw (.slice none 0 0)]),(14,.box 205 true [.p Ds f,.sr 101 T3 0 num.length,.sr 102 T3 0 ord.length]),(101,.arr 3 T3 num),(102,.arr 3 T3 ord),(7,.box 25 true [.sr 200 J9 0 i.1]),(200,.arr 88 J9 ((ord.take i.1).map (LB f num)))]⟩) (fun i=>ord.length-i.1) ⟨0,by omega⟩ (AC [(2,.nm 2),(4,.nm 4),(14,.nm 14),(101,.nm 101),(102,.nm 102),(7,.nm 7),(200,.nil)] rfl rfl ?_ ?_) (fun i=>?_)
      ·first|exact eN|refine eM ?_
      ·first|exact eN|refine eM ?_
      ·obtain⟨i,hi⟩:=i
       repeat'(first|exact trivial|refine eS rfl ?_|refine AB ?_|refine rX [0,1,2,4,5,6,7,8,9,10,11,19,40,60] hc ?_ ?_|refine rC ?_ ?_<;>intro AA<;>try(cases AA;done))
       ·have hi:i<ord.length:=by exact eV
        exact⟨by exact eV,hord _ (AD ord 0 hi)⟩
       ·exact Nat.le_trans (LA hf _) (by omega)
       ·have hi:i<ord.length:=by exact eV
        have harcs:=fun a (ha:a∈Am (f.getD (Int.toNat (ord.getD i 0)) (0,[])).2)=>Rq hf ha
        have hnode:LB f num (ord.getD i 0)=((f.getD (Int.toNat (ord.getD i 0)) (0,[])).1,(Am (f.getD (Int.toNat (ord.getD i 0)) (0,[])).2).map (Uo num)):=rfl
        have hxl:=LA hf (ord.getD i 0)
        generalize List.getD f (Int.toNat (ord.getD i 0)) (0,[])=x at *
        obtain⟨xt,xa⟩:=x
        simp only at harcs hnode hxl
        have hLl:=IA xa
        generalize Am xa=L at *
        refine AL (ι:={k:Nat//k≤L.length}) (fun k=>⟨[(2,.bp 2 [] 0),(4,.bp 4 [] 0),(5,.bp 14 [] 0),(7,.bp 7 [] 0),(8,.p (.int .i64) (i:Int)),(9,.bp 9 [] 0),(10,.sr 56 Aq 0 L.length),(11,.p (.int .i64) (k.1:Int))],[(56,.arr 108 Aq ((L.take k.1).map (Uo num)++L.drop k.1)),(9,.box 88 true [.p T3 xt,.p CE xa]),(2,.box 25 true [.p Fl f]),(4,.box 25 true [.raw (.slice none 0 0)]),(14,.box 205 true [.p Ds f,.sr 101 T3 0 num.length,.sr 102 T3 0 ord.length]),(101,.arr 3 T3 num),(102,.arr 3 T3 ord),(7,.box 25 true [.sr 200 J9 0 i]),(200,.arr 88 J9 ((ord.take i).map (LB f num)))]⟩) (fun k=>L.length-k.1) ⟨0,by omega⟩ (AC [(2,.nm 2),(4,.nm 4),(14,.nm 14),(101,.nm 101),(102,.nm 102),(7,.nm 7),(200,.nm 200),(9,.nm 9),(56,.nm 56)] rfl rfl ?_ ?_) (fun k=>?_)
        ·first|exact eN|refine eM ?_
        ·first|exact eN|refine eM ?_
        ·obtain⟨k,hk⟩:=k
         repeat'(first|exact trivial|refine eS rfl ?_|refine AB ?_|refine rX [0,1,2,4,5,6,7,8,9,10,11,19,40,60] hc ?_ ?_|refine rC ?_ ?_<;>intro AA<;>try(cases AA;done))
         ·have hkL:k<L.length:=by exact eV
          have e:=(Th (Uo num) (fun b=>b) L (0,0) hkL (Uo num)).2
          rw[e]
          have:=harcs _ (AD L (0,0) hkL)
          rw[hn1]
          exact⟨by exact eV,this,by exact eV⟩
         ·exact eV
         ·have hkL:k<L.length:=by exact eV
          have e:=Th (Uo num) (fun b=>b) L (0,0) hkL (Uo num)
          refine⟨⟨k+1,by omega⟩,by simp only;omega,AC [(2,.nm 2),(4,.nm 4),(14,.nm 14),(101,.nm 101),(102,.nm 102),(7,.nm 7),(200,.nm 200),(9,.nm 9),(56,.nm 56)] rfl rfl ?_ ?_⟩
          ·first|exact eN|refine eM ?_
           rw[e.2]
           exact e.1
          ·first|exact eN|refine eM ?_
         ·simp only[AP];have:=hn2;omega
         ·exact eV
         ·have hkL:L.take k=L:=List.take_of_length_le (by exact eV)
          have hdL:L.drop k=[]:=List.drop_eq_nil_of_le (by exact eV)
          refine⟨⟨i+1,by omega⟩,by simp only;omega,AC [(2,.nm 2),(4,.nm 4),(14,.nm 14),(101,.nm 101),(102,.nm 102),(7,.nm 7),(200,.nm 200)] rfl rfl ?_ ?_⟩
          ·first|exact eN|refine eM ?_
           rw[hkL,hdL,List.append_nil,Ac ord 0 hi,List.map_append,List.map_cons,List.map_nil,hnode]
           have t1:List.take i ((ord.take i).map (LB f num))=(ord.take i).map (LB f num):=List.take_of_length_le (by rw[List.length_map,List.length_take];omega)
           have t2:List.take L.length (L.map (Uo num))=L.map (Uo num):=List.take_of_length_le (by rw[List.length_map];omega)
           rw[t1,t2]
          ·first|exact eN|refine eM ?_
       ·have hk:ord.take i=ord:=List.take_of_length_le (by exact eV)
        rw[hk]
        refine AH hc [.cell 4 25] rfl (.inl rfl) (by simp) (by first|exact eR|refine Aw ?_;exact List.take_of_length_le (by rw[List.length_map];exact eV))
end
/- Functions of grammarlabref07: Canon, Sub; grammarlabref15: in, arc, canon. -/
section
attribute [local go_sem] oE WF
theorem Ti {n:Int}:∀ {l seen:List (Int×Int)},Ol n seen l=0→∀a∈l,0≤a.1∧0≤a.2∧a.2<n
 | [],_,_,a,ha=>by cases ha
 | x :: l,seen,h,a,ha=>by
  simp only[Ol]at h
  split at h
  ·cases h
  ·split at h
   ·cases h
   ·rename_i h1 _
    rcases List.mem_cons.1 ha with rfl|ha
    ·omega
    ·exact Ti h a ha
theorem Js {m:Int}:∀ {f:List (Int×List (Int×Int))},KD m f=0→∀x∈f,0≤x.1∧∀a∈x.2,0≤a.1∧0≤a.2∧a.2<m
 | [],_,x,hx=>by cases hx
 | y :: f,h,x,hx=>by
  simp only[KD]at h
  split at h
  ·cases h
  ·split at h
   ·rename_i h1 h2;exact absurd h h2
   ·rename_i h1 h2
    have h2:I7 y.2 m=0:=Classical.byContradiction h2
    rcases List.mem_cons.1 hx with rfl|hx
    ·exact⟨by omega,Ti h2⟩
    ·exact Js h x hx
def Xq (f:List (Int×List (Int×Int))):Prop:=∀x∈f,x.2.length≤100000
theorem NJ {f:List (Int×List (Int×Int))} (h:EO f=0) (hs:Xq f):AY f∧0<f.length:=by
 unfold EO at h
 split at h
 ·cases h
 ·split at h
  ·cases h
  ·refine⟨⟨by omega,fun x hx=>⟨hs x hx,fun a ha=>?_⟩⟩,by omega⟩
   have:=(Js h x hx).2 a ha
   exact⟨this.2.1,this.2.2⟩
def CR (f:List AE):List AE×Int:=if EO f=0 then (Gl f 0,0) else ([],EO f)
def Tj:Af:={ ins:=[Ds],pre:=fun(f,_)=>Xq f,out:=fun(f,_)=>[.p Ds (CR f).1,.p ZO (CR f).2] }
theorem xI:Al Tryz.prog 73 Tj:=by
 refine AU Tryz.func73 (by kernel_rfl) rfl Tryz.ntmps73 (by decide) (by kernel_rfl) (AG [(110,oE),(107,WF)]) (AF A24 (AF oI AJ)) ?_
 rintro w0 O0 ⟨f,u⟩ hc-hs
 simp only[Tj,AN]
 repeat'(first|exact trivial|refine eS rfl ?_|refine AB ?_|refine rX [0,1,2,3,4,8] hc ?_ ?_|refine rC ?_ ?_<;>intro AA<;>try(cases AA;done))
 ·have h:¬EO f=0:=by simpa using AA
  have e:CR f=([],EO f):=if_neg h
  exact AH hc [.cell 2 25,.tmp 3] rfl (.inl rfl) (by simp) (by rw[e];first|exact eR|refine Aw ?_)
 ·have h:EO f=0:=by simpa using AA
  have:=NJ h hs
  exact⟨this.1,by exact eV⟩
 ·have h:EO f=0:=by simpa using AA
  have e:CR f=(Gl f 0,0):=if_pos h
  exact AH hc [.cell 2 25,.tmp 3] rfl (.inl rfl) (by simp) (by rw[e];first|exact eR|refine Aw ?_)
end
/- Functions of grammarlabref15: LightPaths; grammarlabref07.Atom. -/
section
def Z8:Af:={ ins:=[T3],pre:=fun _=>True,out:=fun(t,_)=>[.p Ds [(t,[])]] }
theorem A25:Al Tryz.prog 59 Z8:=by
 refine AU Tryz.func59 (by kernel_rfl) rfl Tryz.ntmps59 (by decide) (by kernel_rfl) (AG []) AJ ?_
 rintro w0 O0 ⟨t,u⟩ hc - -
 simp only[Z8,AN]
 repeat'(first|exact trivial|refine eS rfl ?_|refine AB ?_|refine rX [0,2] hc ?_ ?_|refine rC ?_ ?_<;>intro AA<;>try(cases AA;done))
 exact AH hc [.cell 2 25] rfl (.inl rfl) (by simp) (by first|exact eR|refine Aw ?_)
end
/- Functions of grammarlabref15: Canonical. -/
section
attribute [local go_sem] TZ Tj Hc
def ftB (a:Int×Int):Bool:=decide (a.1<64)
def ndB (x:AE):Bool:=decide (x.1<256)&&x.2.all ftB
def Dl (f:List AE):Bool:=Gf f&&f.all ndB&&((CR f).2==0&&(Cv (CR f).1 f==0))
theorem LD {f:List AE} (h:Gf f=true):f.length≤12∧∀x∈f,x.2.length≤12:=by
 unfold Gf at h
 simp only[Bool.and_eq_true,decide_eq_true_eq,List.all_eq_true]at h
 exact h
theorem eO {f:List AE} (hf:AY f) {n:Int} (h0:0≤n) (h1:n<f.length):Ej (Gl f n):=by
 obtain⟨⟨g1,g2⟩,_⟩:=oH hf h0 h1
 have hfl:=hf.1
 refine⟨?_,fun x hx=>?_⟩
 ·unfold Gl
  rw[List.length_map]
  omega
 ·obtain⟨m,_,rfl⟩:=List.mem_map.1 hx
  unfold LB
  simp only[List.length_map,IA]
  exact LA hf m
theorem Z9 {f:List AE} (hs:Xq f):Ej (CR f).1:=by
 unfold CR
 split
 ·rename_i h
  obtain⟨h1,h2⟩:=NJ h hs
  exact eO h1 (by omega) (by omega)
 ·exact⟨by simp,fun x hx=>by cases hx⟩
end
/- Functions of Go's library under graph.canonical: isNaN, Compare, byFeature, the sort of what is sorted. -/
section
def Xr:Af:={ ins:=[T3],pre:=fun _=>True,out:=fun _=>[.p .bool false] }
attribute [local go_sem] Xr
def Up (a b:Int):Int:=if a<b then -1 else if b<a then 1 else 0
def IB:Af:={ ins:=[T3,T3],pre:=fun _=>True,out:=fun(a,b,_)=>[.p T3 (Up a b)] }
attribute [local go_sem] IB
def E4:Af:={ ins:=[Aq,Aq],pre:=fun _=>True,out:=fun(a,b,_)=>[.p T3 (Up (Prod.fst a) (Prod.fst b))] }
attribute [local go_sem] E4
theorem xJ:Al Tryz.prog 122 Xr:=by
 refine AU Tryz.func122 (by kernel_rfl) rfl Tryz.ntmps122 (by decide) (by kernel_rfl) (AG []) AJ ?_
 rintro w0 O0 ⟨x,u⟩ hc - -
 simp only[Xr,AN]
 repeat'(first|exact trivial|refine eS rfl ?_|refine AB ?_|refine rX [0,2] hc ?_ ?_|refine rC ?_ ?_<;>intro AA<;>try(cases AA;done))
 exact AH hc [.tmp 2] rfl (.inl rfl) (by simp) (by first|exact eR|refine Aw ?_)
theorem Uq:Al Tryz.prog 86 IB:=by
 refine AU Tryz.func86 (by kernel_rfl) rfl Tryz.ntmps86 (by decide) (by kernel_rfl) (AG [(122,Xr)]) (AF xJ AJ) ?_
 rintro w0 O0 ⟨a,b,u⟩ hc - -
 simp only[IB,AN]
 repeat'(first|exact trivial|refine eS rfl ?_|refine AB ?_|refine rX [0,1,4,5,6,11,12,13,16,19] hc ?_ ?_|refine rC ?_ ?_<;>intro AA<;>try(cases AA;done))
 ·have e:Up a b=-1:=if_pos AA
  exact AH hc [.tmp 4] rfl (.inl rfl) (by simp) (by rw[e];first|exact eR|refine Aw ?_)
 ·have e:Up a b=1:=by unfold Up;rw[if_neg (by omega),if_pos AA]
  exact AH hc [.tmp 4] rfl (.inl rfl) (by simp) (by rw[e];first|exact eR|refine Aw ?_)
 ·have e:Up a b=0:=by unfold Up;rw[if_neg (by omega),if_neg (by omega)]
  exact AH hc [.tmp 4] rfl (.inl rfl) (by simp) (by rw[e];first|exact eR|refine Aw ?_)
theorem Jt:Al Tryz.prog 172 E4:=by
 refine AU Tryz.func172 (by kernel_rfl) rfl Tryz.ntmps172 (by decide) (by kernel_rfl) (AG [(86,IB)]) (AF Uq AJ) ?_
 rintro w0 O0 ⟨a,b,u⟩ hc - -
 simp only[E4,AN]
 repeat'(first|exact trivial|refine eS rfl ?_|refine AB ?_|refine rX [0,1,2,3,4] hc ?_ ?_|refine rC ?_ ?_<;>intro AA<;>try(cases AA;done))
 exact AH hc [.tmp 4] rfl (.inl rfl) (by simp) (by first|exact eR|refine Aw ?_)
def LE (l:List (Int×Int)):Prop:=∀i,i+1<l.length→(l.getD i (0,0)).1<(l.getD (i+1) (0,0)).1
theorem Xs (l:List (Int×Int)) (hl:l.length≤100000) (hs:LE l):B8 Tryz.prog 217 [.sr 1000000 Aq 0 l.length,.p T3 (0:Int),.p T3 (l.length:Int),.fn 172] [(1000000,.arr 108 Aq l)] [1000000] (fun res objs'=>res=.raw (.tuple #[])∧objs'=[(1000000,.arr 108 Aq l)]):=by
 refine CQ Tryz.func217 (by kernel_rfl) rfl Tryz.ntmps217 (by simp only[List.length_cons,List.length_nil];omega) (by kernel_rfl) rfl rfl (AG [(172,E4)]) (AF Jt AJ) ?_
 intro w0 K O0 ρ0 hc hok1 hok2
 simp only[BG]
 repeat'(first|exact trivial|refine eS rfl ?_|refine AB ?_|refine rX [0,1,2,3,8,9,14,34] hc ?_ ?_|refine rC ?_ ?_<;>intro AA<;>try(cases AA;done))
 ·omega
 ·refine AL (ι:={i:Nat//1≤i∧(i=1∨i≤l.length)}) (fun i=>⟨[(0,.sr 1000000 Aq 0 l.length),(1,.p T3 (0:Int)),(2,.p T3 (l.length:Int)),(3,.fn 172),(8,.p (.int .i64) (i.1:Int))],[(1000000,.arr 108 Aq l)]⟩) (fun i=>l.length-i.1) ⟨1,by omega⟩ (AC [(1000000,.nm 1000000)] rfl rfl ?_ ?_) (fun i=>?_)
  ·first|exact eN|refine eM ?_
  ·first|exact eN|refine eM ?_
  ·obtain⟨i,hi1,hi2⟩:=i
   repeat'(first|exact trivial|refine eS rfl ?_|refine AB ?_|refine rX [0,1,2,3,8,9,14,34] hc ?_ ?_|refine rC ?_ ?_<;>intro AA<;>try(cases AA;done))
   ·have hil:i<l.length:=by exact eV
    refine AL (ι:=Unit) (fun j=>⟨[(0,.sr 1000000 Aq 0 l.length),(1,.p T3 (0:Int)),(2,.p T3 (l.length:Int)),(3,.fn 172),(8,.p (.int .i64) (i:Int)),(9,.p (.int .i64) (i:Int))],[(1000000,.arr 108 Aq l)]⟩) (fun j=>0) () (AC [(1000000,.nm 1000000)] rfl rfl ?_ ?_) (fun j=>?_)
    ·first|exact eN|refine eM ?_
    ·first|exact eN|refine eM ?_
    ·repeat'(first|exact trivial|refine eS rfl ?_|refine AB ?_|refine rX [0,1,2,3,8,9,14,34] hc ?_ ?_)
     ·dsimp only[Ty.den]at *
      refine⟨fun _=>AA,fun _=>⟨by omega,by omega⟩,fun _=>⟨by omega,by omega⟩⟩
     ·refine Yy (by simp only[go_sem,Nat.reduceEqDiff,reduceCtorEq,Nat.reduceAdd,Nat.reduceSub,Nat.reduceMul,Nat.reduceLeDiff,Nat.reduceLT,Int.reduceLE,Int.reduceToNat,Int.reduceNeg,↓reduceIte];rfl) ?_ ?_
      ·intro hc2
       exfalso
       simp only[Bool.and_eq_true,decide_eq_true_eq]at hc2
       have h2:=hc2.2
       have e:((i:Int)-1).toNat=i-1:=by omega
       have h3:=hs (i-1) (by omega)
       rw[show i-1+1=i by omega]at h3
       rw[e]at h2
       unfold Up at h2
       rw[if_neg (by omega),if_pos h3]at h2
       omega
      ·intro _
       repeat'(first|exact trivial|refine eS rfl ?_|refine AB ?_|refine rX [0,1,2,3,8,9,14,34] hc ?_ ?_|refine rC ?_ ?_<;>intro AA<;>try(cases AA;done))
       ·dsimp only[Ty.den]at *
        omega
       ·refine⟨⟨i+1,by omega,.inr (by omega)⟩,by simp only;omega,AC [(1000000,.nm 1000000)] rfl rfl ?_ ?_⟩
        ·first|exact eN|refine eM ?_
        ·first|exact eN|refine eM ?_
   ·exact BE hc [] rfl (.inr rfl) (.raw (.tuple #[])) rfl ⟨rfl,rfl⟩
end
/- The plain law under graph.canonical: the program's search and the reference's are one, where each node's arcs ascend. -/
section
def DT (f:List AE):Nat→List Int→Int→List Int
 | 0,o,_=>o
 | k+1,o,n=>(f.getD n.toNat (0,[])).2.foldl (fun o a=>if a.2∈o then o else DT f k o a.2) (o++[n])
def Ab (f:List AE) (k:Nat) (o:List Int) (a:Int×Int):List Int:=if a.2∈o then o else DT f k o a.2
theorem CN (f:List AE) (k:Nat) (o:List Int) (n:Int):DT f (k+1) o n=(f.getD n.toNat (0,[])).2.foldl (Ab f k) (o++[n]):=rfl
structure LF (f:List AE) (o:List Int):Prop where
 nd:o.Nodup
 rng:∀x∈o,0≤x∧x<(f.length:Int)
theorem LF.len {f:List AE} {o:List Int} (h:LF f o):o.length≤f.length:=by
 have h1:(o.map Int.toNat).Nodup:=by
  rw[List.Nodup,List.pairwise_map]
  refine h.nd.imp_of_mem fun {a b} ha hb hne e=>hne ?_
  have:=h.rng a ha
  have:=h.rng b hb
  omega
 have:=EY f.length (o.map Int.toNat) h1 (fun j hj=>by
  obtain⟨x,hx,rfl⟩:=List.mem_map.1 hj
  have:=h.rng x hx
  omega)
 simpa using this
theorem LF.snoc {f:List AE} {o:List Int} (h:LF f o) {n:Int} (h0:0≤n) (h1:n<f.length) (hn:n∉o):LF f (o++[n]):=by
 refine⟨?_,fun x hx=>?_⟩
 ·rw[List.nodup_append]
  refine⟨h.nd,by simp,fun a ha b hb=>?_⟩
  have:b=n:=by simpa using hb
  subst this
  intro e
  subst e
  exact hn ha
 ·rcases List.mem_append.1 hx with hx|hx
  ·exact h.rng x hx
  ·have:x=n:=by simpa using hx
   subst this
   exact⟨h0,h1⟩
theorem EP {f:List AE} {k:Nat} (hv:∀(o:List Int) (n:Int),LF f o→0≤n→n<f.length→n∉o→LF f (DT f k o n)∧o <+: DT f k o n) :
  ∀(l:List (Int×Int)) (o:List Int),(∀a∈l,0≤a.2∧a.2<(f.length:Int))→LF f o→LF f (l.foldl (Ab f k) o)∧o <+: l.foldl (Ab f k) o
 | [],o,_,h=>⟨h,List.prefix_refl _⟩
 | a :: l,o,hl,h=>by
  simp only[List.foldl_cons]
  have hstep:LF f (Ab f k o a)∧o <+: Ab f k o a:=by
   unfold Ab
   split
   ·exact⟨h,List.prefix_refl _⟩
   ·rename_i hn
    exact hv o a.2 h (hl a (by simp)).1 (hl a (by simp)).2 hn
  obtain⟨g1,g2⟩:=EP hv l _ (fun b hb=>hl b (by simp[hb])) hstep.1
  exact⟨g1,hstep.2.trans g2⟩
theorem BC {f:List AE} (hf:AY f) {n:Int} {a:Int×Int} (ha:a∈(f.getD n.toNat (0,[])).2):0≤a.2∧a.2<f.length:=by
 by_cases h:n.toNat<f.length
 ·have hm:f.getD n.toNat (0,[])∈f:=by
   rw[List.getD_eq_getElem?_getD,List.getElem?_eq_getElem h];exact List.getElem_mem h
  exact(hf.2 _ hm).2 a ha
 ·rw[List.getD_eq_getElem?_getD,List.getElem?_eq_none (by omega)]at ha
  simp at ha
theorem Dm {f:List AE} (hf:AY f):∀(k:Nat) (o:List Int) (n:Int),LF f o→0≤n→n<f.length→n∉o→LF f (DT f k o n)∧o <+: DT f k o n
 | 0,o,n,h,_,_,_=>⟨h,List.prefix_refl _⟩
 | k+1,o,n,h,h0,h1,h2=>by
  obtain⟨g1,g2⟩:=EP (Dm hf k) _ _ (fun a ha=>BC hf ha) (h.snoc h0 h1 h2)
  rw[CN]
  exact⟨g1,(List.prefix_append o [n]).trans g2⟩
theorem Hd {f:List AE} (hf:AY f):∀(k:Nat) (o:List Int) (n:Int),LF f o→0≤n→n<f.length→n∉o→f.length-o.length≤k →
  n∈DT f k o n∧∀x∈DT f k o n,x∈o∨∀a∈(f.getD x.toNat (0,[])).2,a.2∈DT f k o n
 | 0,o,n,h,h0,h1,h2,hk=>by
  have:=(h.snoc h0 h1 h2).len
  simp only[List.length_append,List.length_singleton]at this
  omega
 | k+1,o,n,h,h0,h1,h2,hk=>by
  have key:∀(l:List (Int×Int)) (t:List Int),(∀a∈l,0≤a.2∧a.2<(f.length:Int))→LF f t→f.length-t.length≤k →
    (∀a∈l,a.2∈l.foldl (Ab f k) t)∧∀x∈l.foldl (Ab f k) t,x∈t∨∀a∈(f.getD x.toNat (0,[])).2,a.2∈l.foldl (Ab f k) t:=by
   intro l
   induction l with
   | nil=>exact fun t _ _ _=>⟨fun a ha=>(by cases ha),fun x hx=>.inl hx⟩
   | cons a l ih =>
    intro t hl ht hlen
    simp only[List.foldl_cons]
    have hstep:LF f (Ab f k t a)∧t <+: Ab f k t a∧a.2∈Ab f k t a∧∀x∈Ab f k t a,x∈t∨∀b∈(f.getD x.toNat (0,[])).2,b.2∈Ab f k t a:=by
     unfold Ab
     split
     ·rename_i hn
      exact⟨ht,List.prefix_refl _,hn,fun x hx=>.inl hx⟩
     ·rename_i hn
      have q:=hl a (by simp)
      obtain⟨g1,g2⟩:=Dm hf k t a.2 ht q.1 q.2 hn
      obtain⟨g3,g4⟩:=Hd hf k t a.2 ht q.1 q.2 hn hlen
      exact⟨g1,g2,g3,g4⟩
    obtain⟨g1,g2,g3,g4⟩:=hstep
    have hle:=g2.length_le
    obtain⟨i1,i2⟩:=ih (Ab f k t a) (fun b hb=>hl b (by simp[hb])) g1 (by omega)
    obtain⟨_,j2⟩:=EP (Dm hf k) l (Ab f k t a) (fun b hb=>hl b (by simp[hb])) g1
    refine⟨fun b hb=>?_,fun x hx=>?_⟩
    ·rcases List.mem_cons.1 hb with rfl|hb
     ·exact j2.subset g3
     ·exact i1 b hb
    ·rcases i2 x hx with hx|hx
     ·rcases g4 x hx with hx|hx
      ·exact .inl hx
      ·exact .inr fun b hb=>j2.subset (hx b hb)
     ·exact .inr hx
  have hs:=h.snoc h0 h1 h2
  obtain⟨g1,g2⟩:=key (f.getD n.toNat (0,[])).2 (o++[n]) (fun a ha=>BC hf ha) hs (by simp only[List.length_append,List.length_singleton];omega)
  obtain⟨_,g3⟩:=EP (Dm hf k) (f.getD n.toNat (0,[])).2 (o++[n]) (fun a ha=>BC hf ha) hs
  rw[CN]
  refine⟨g3.subset (by simp),fun x hx=>?_⟩
  rcases g2 x hx with hx|hx
  ·rcases List.mem_append.1 hx with hx|hx
   ·exact .inl hx
   ·have:x=n:=by simpa using hx
    subst this
    exact .inr g1
  ·exact .inr hx
def Be (o:List Int) (x:Int):Int:=if x∈o then (o.idxOf x:Int) else 0
def I8 (o:List Int) (a:Int×Int):Int×Int:=(a.1,Be o a.2)
def DU (f:List AE) (o:List Int) (n:Int):AE:=((f.getD n.toNat (0,[])).1,(f.getD n.toNat (0,[])).2.map (I8 o))
def AO (f:List AE) (root:Int):List AE:=(DT f f.length [] root).map (DU f (DT f f.length [] root))
def NK (f:List AE):Prop:=∀x∈f,LE x.2∧x.2.length≤200
theorem Xt {f:List AE} (hf:NK f) (n:Int):LE (f.getD n.toNat (0,[])).2∧(f.getD n.toNat (0,[])).2.length≤200:=by
 by_cases h:n.toNat<f.length
 ·have hm:f.getD n.toNat (0,[])∈f:=by
   rw[List.getD_eq_getElem?_getD,List.getElem?_eq_getElem h];exact List.getElem_mem h
  exact hf _ hm
 ·rw[List.getD_eq_getElem?_getD,List.getElem?_eq_none (by omega)]
  exact⟨fun i hi=>by simp at hi,by simp⟩
theorem LG {l:List (Int×Int)} (h:LE l):Am l=l:=by
 have key:∀i,i≤l.length→Am (l.take i)=l.take i:=by
  intro i
  induction i with
  | zero=>intro _;rfl
  | succ i ih =>
   intro hi
   rw[Ac l (0,0) (by omega),Jq,ih (by omega)]
   have hlen:(l.take i).length=i:=by rw[List.length_take];omega
   have hpos:KK (l.getD i (0,0)) (l.take i) (l.take i).length=(l.take i).length:=by
    rw[hlen]
    cases i with
    | zero=>rfl
    | succ i =>
     have h1:=h i (by omega)
     have h2:(l.take (i+1)).getD i (0,0)=l.getD i (0,0):=by
      simp only[List.getD_eq_getElem?_getD]
      rw[List.getElem?_take];simp
     simp only[KK]
     rw[h2,if_neg (by omega)]
   unfold Pl
   rw[hpos,List.take_length,List.drop_length,List.append_nil]
 have:=key l.length (Nat.le_refl _)
 rwa [List.take_length]at this
structure KG (f:List AE) (num o:List Int):Prop where
 len:num.length=f.length
 get:∀j,j<f.length→num.getD j 0=if (j:Int)∈o then (o.idxOf (j:Int):Int) else -1
theorem KG.neg {f:List AE} {num o:List Int} (h:KG f num o) {n:Int} (h0:0≤n) (h1:n<f.length):num.getD n.toNat 0<0↔n∉o:=by
 have:=h.get n.toNat (by omega)
 rw[show ((n.toNat:Nat):Int)=n by omega]at this
 rw[this]
 split
 ·rename_i hm
  constructor
  ·intro e;omega
  ·intro e;exact absurd hm e
 ·rename_i hm
  exact⟨fun _=>hm,fun _=>by omega⟩
theorem WG {o:List Int} {x n:Int} (h:x∈o):(o++[n]).idxOf x=o.idxOf x:=by rw[List.idxOf_append,if_pos h]
theorem WH {o:List Int} {n:Int} (h:n∉o):(o++[n]).idxOf n=o.length:=by rw[List.idxOf_append,if_neg h];simp
theorem KG.snoc {f:List AE} {num o:List Int} (h:KG f num o) {n:Int} (h0:0≤n) (h1:n<f.length) (hn:n∉o):KG f (num.set n.toNat (o.length:Int)) (o++[n]):=by
 refine⟨by simpa using h.len,fun j hj=>?_⟩
 have hj':j<num.length:=by rw[h.len];exact hj
 by_cases e:j=n.toNat
 ·subst e
  have en:((n.toNat:Nat):Int)=n:=by omega
  rw[en]
  simp only[List.getD_eq_getElem?_getD]
  rw[List.getElem?_set_self hj',if_pos (by simp),WH hn]
  simp
 ·have en:¬(j:Int)=n:=by omega
  simp only[List.getD_eq_getElem?_getD]
  rw[List.getElem?_set_ne (fun e'=>e e'.symm)]
  have:=h.get j hj
  simp only[List.getD_eq_getElem?_getD]at this
  rw[this]
  by_cases hm:(j:Int)∈o
  ·rw[if_pos hm,if_pos (by simp[hm]),WG hm]
  ·rw[if_neg hm,if_neg (by simp[hm,en])]
theorem Tk {f:List AE} (hf:AY f) (hs:NK f):∀(k:Nat) (s:List Int×List Int) (n:Int),KG f s.1 s.2→LF f s.2→0≤n→n<f.length→n∉s.2→(Dj f k s n).2=DT f k s.2 n∧KG f (Dj f k s n).1 (Dj f k s n).2
 | 0,s,n,h,_,_,_,_=>⟨rfl,h⟩
 | k+1,s,n,h,hd,h0,h1,h2=>by
  have key:∀(l:List (Int×Int)) (t:List Int×List Int),(∀a∈l,0≤a.2∧a.2<(f.length:Int))→KG f t.1 t.2→LF f t.2→(l.foldl (EB f k) t).2=l.foldl (Ab f k) t.2∧KG f (l.foldl (EB f k) t).1 (l.foldl (EB f k) t).2:=by
   intro l
   induction l with
   | nil=>exact fun t _ ht _=>⟨rfl,ht⟩
   | cons a l ih =>
    intro t hl ht htd
    simp only[List.foldl_cons]
    have q:=hl a (by simp)
    have hq:=ht.neg q.1 q.2
    have hstep:(EB f k t a).2=Ab f k t.2 a∧KG f (EB f k t a).1 (EB f k t a).2∧LF f (EB f k t a).2:=by
     unfold EB Ab
     by_cases hm:a.2∈t.2
     ·rw[if_pos hm,if_neg (by rw[hq];exact fun e=>e hm)]
      exact⟨rfl,ht,htd⟩
     ·rw[if_neg hm,if_pos (by rw[hq];exact hm)]
      obtain⟨g1,g2⟩:=Tk hf hs k t a.2 ht htd q.1 q.2 hm
      exact⟨g1,g2,by rw[g1];exact(Dm hf k t.2 a.2 htd q.1 q.2 hm).1⟩
    obtain⟨g1,g2,g3⟩:=hstep
    obtain⟨i1,i2⟩:=ih (EB f k t a) (fun b hb=>hl b (by simp[hb])) g2 g3
    rw[g1]at i1
    exact⟨i1,i2⟩
  rw[FG,CN,LG (Xt hs n).1]
  exact key _ (s.1.set n.toNat (s.2.length:Int),s.2++[n]) (fun a ha=>BC hf ha) (h.snoc h0 h1 h2) (hd.snoc h0 h1 h2)
theorem LI {f:List AE} (hf:AY f) (hs:NK f) {root:Int} (h0:0≤root) (h1:root<f.length):Gl f root=AO f root:=by
 have hn0:KG f (List.replicate f.length (-1)) []:=⟨by simp,fun j hj=>by simp[List.getD_eq_getElem?_getD,List.getElem?_replicate,hj]⟩
 have hd0:LF f []:=⟨by simp,fun x hx=>by cases hx⟩
 obtain⟨g1,g2⟩:=Tk hf hs f.length (List.replicate f.length (-1),[]) root hn0 hd0 h0 h1 (by simp)
 have g1:(Gk f root).2=DT f f.length [] root:=g1
 have g2:KG f (Gk f root).1 (Gk f root).2:=g2
 have hc:=(Hd hf f.length [] root hd0 h0 h1 (by simp) (by simp)).2
 have ho:=(Dm hf f.length [] root hd0 h0 h1 (by simp)).1
 unfold Gl AO
 rw[g1]at g2 ⊢
 generalize DT f f.length [] root=o at *
 refine List.map_congr_left fun x hx=>?_
 unfold LB DU
 rw[LG (Xt hs x).1]
 refine congrArg _ (List.map_congr_left fun a ha=>?_)
 unfold Uo I8 Be
 have hin:a.2∈o:=by
  rcases hc x hx with hx'|hx'
  ·cases hx'
  ·exact hx' a ha
 have hr:=BC hf ha
 have:=g2.get a.2.toNat (by omega)
 rw[show ((a.2.toNat:Nat):Int)=a.2 by omega]at this
 rw[this,if_pos hin,if_pos hin]
/-! The program's map of numbers -/
def tR (o:List Int):List (Int×Int):=(List.range o.length).map fun i=>(o.getD i 0,(i:Int))
theorem aA (o:List Int) (n:Int):tR (o++[n])=tR o++[(n,(o.length:Int))]:=by
 unfold tR
 rw[List.length_append,List.length_singleton,List.range_succ,List.map_append]
 congr 1
 ·refine List.map_congr_left fun i hi=>?_
  have:i<o.length:=List.mem_range.1 hi
  simp only[List.getD_eq_getElem?_getD]
  rw[List.getElem?_append_left this]
 ·simp[List.getD_eq_getElem?_getD]
theorem rW (k:Int) (a b:List (Int×Int)):FN T3 T3 k (a++b)=(FN T3 T3 k a).or (FN T3 T3 k b):=by
 induction a with
 | nil=>rfl
 | cons x a ih =>
  simp only[List.cons_append,FN]
  split
  ·rfl
  ·exact ih
theorem IZ {α:Type} {p:List α→Prop} (h0:p []) (h1:∀l a,p l→p (l++[a])) (l:List α):p l:=by
 have:∀n (l:List α),l.length=n→p l:=by
  intro n
  induction n with
  | zero=>intro l hl;rw[List.length_eq_zero_iff.1 hl];exact h0
  | succ n ih =>
   intro l hl
   have hne:l≠[]:=by intro e;subst e;simp at hl
   rw[←List.dropLast_concat_getLast hne]
   exact h1 _ _ (ih _ (by simp[hl]))
 exact this _ l rfl
theorem Po (o:List Int) (x:Int):FN T3 T3 x (tR o)=if x∈o then some (o.idxOf x:Int) else none:=by
 induction o using IZ with
 | h0=>rfl
 | h1 o n ih =>
  rw[aA,rW,ih]
  by_cases hx:x∈o
  ·rw[if_pos hx,if_pos (by simp[hx]),WG hx];rfl
  ·rw[if_neg hx]
   by_cases hn:x=n
   ·subst hn
    rw[if_pos (by simp),WH hx]
    simp[FN,Ub]
   ·rw[if_neg (by simp[hx,hn])]
    have:((x==n)=true)↔False:=by simp[hn]
    simp[FN,Ub,hn]
theorem rZ (k v:Int) (l:List (Int×Int)) (h:FN T3 T3 k l=none):R4 T3 T3 k v l=l++[(k,v)]:=by
 induction l with
 | nil=>rfl
 | cons x l ih =>
  simp only[FN]at h
  simp only[R4,List.cons_append]
  split at h
  ·cases h
  ·rename_i hne
   rw[if_neg hne,ih h]
theorem xK {o:List Int} {n:Int} (hn:n∉o):R4 T3 T3 n (o.length:Int) (tR o)=tR (o++[n]):=by
 rw[rZ _ _ _ (by rw[Po,if_neg hn]),aA]
theorem A26 (o:List Int) (x:Int):(FN T3 T3 x (tR o)).getD 0=Be o x:=by
 rw[Po]
 unfold Be
 split<;>rfl
theorem Tl (o:List Int) (x:Int):(FN T3 T3 x (tR o)).isSome=decide (x∈o):=by
 rw[Po]
 split<;>simp[*]
end
/- Functions of Go's library under graph.canonical: the sort of sorted elements. -/
section
attribute [local go_sem] E4
theorem oJ {l:List (Int×Int)} (hs:LE l):∀ {d i:Nat},i+d+1<l.length→(l.getD i (0,0)).1<(l.getD (i+d+1) (0,0)).1
 | 0,i,h=>hs i h
 | d+1,i,h=>by
  have h1:=oJ hs (d:=d) (i:=i) (by omega)
  have h2:=hs (i+d+1) (by omega)
  rw[show i+(d+1)+1=i+d+1+1 by omega]
  omega
theorem Tm {l:List (Int×Int)} (hs:LE l) {i j:Nat} (h:i<j) (hj:j<l.length):(l.getD i (0,0)).1<(l.getD j (0,0)).1:=by
 have:=oJ hs (d:=j-i-1) (i:=i) (by omega)
 rwa [show i+(j-i-1)+1=j by omega]at this
theorem Xu {a b:Int} (h:a<b):¬Up b a<0:=by
 unfold Up
 rw[if_neg (by omega),if_pos h]
 omega
def Pp (l:List (Int×Int)):List (Nat×Obj):=[(1000000,.arr 108 Aq l),(70,.box 3 false [.p T3 (0:Int)])]
theorem WI (l:List (Int×Int)) (hs:LE l) {a b:Int} (a0:0≤a) (ab:a<b) (bl:b<(l.length:Int)):B8 Tryz.prog 232 [.sr 1000000 Aq 0 l.length,.p T3 a,.p T3 b,.bp 70 [] 0,.fn 172] (Pp l) [1000000,70] (fun res objs'=>res=.tup [.p T3 a,.p T3 b]∧objs'=Pp l):=by
 refine CQ Tryz.func232 (by kernel_rfl) rfl Tryz.ntmps232 (by simp only[List.length_cons,List.length_nil];omega) (by kernel_rfl) rfl rfl (AG [(172,E4)]) (AF Jt AJ) ?_
 intro w0 K O0 ρ0 hc hok1 hok2
 have b0:0≤b:=by omega
 have al:a<(l.length:Int):=by omega
 simp only[BG,Pp]
 repeat'(first|exact trivial|refine eS rfl ?_|refine AB ?_|refine rX [0,1,2,3,4,10,11,22] hc ?_ ?_|refine rC ?_ ?_<;>intro AA<;>try(cases AA;done))
 ·exact⟨⟨b0,bl⟩,a0,al⟩
 ·exfalso
  exact Xu (Tm hs (i:=a.toNat) (j:=b.toNat) (by omega) (by omega)) AA
 ·exfalso
  exact Xu (Tm hs (i:=a.toNat) (j:=b.toNat) (by omega) (by omega)) AA
 ·exact BE hc [.tmp 10,.tmp 11] rfl (.inl rfl) (.tup [.p T3 a,.p T3 b]) eT ⟨rfl,rfl⟩
theorem Pq (l:List (Int×Int)) (hs:LE l) {a b c:Int} (a0:0≤a) (ab:a<b) (bc:b<c) (cl:c<(l.length:Int)):B8 Tryz.prog 229 [.sr 1000000 Aq 0 l.length,.p T3 a,.p T3 b,.p T3 c,.bp 70 [] 0,.fn 172] (Pp l) [1000000,70] (fun res objs'=>res=.p T3 b∧objs'=Pp l):=by
 refine CQ Tryz.func229 (by kernel_rfl) rfl Tryz.ntmps229 (by simp only[List.length_cons,List.length_nil];omega) (by kernel_rfl) rfl rfl (AG []) AJ ?_
 intro w0 K O0 ρ0 hc hok1 hok2
 simp only[BG,Pp]
 have bl:b<(l.length:Int):=by omega
 have b0:0≤b:=by omega
 have key1:=WI l hs a0 ab bl
 have key2:=WI l hs b0 bc cl
 repeat'(first|exact trivial|refine eS rfl ?_|refine AB ?_|refine rX [0,1,2,3,4,5,12] hc ?_ ?_|refine rC ?_ ?_<;>intro AA<;>try(cases AA;done))
 refine cP 5 hc ?_ ?_
 ·trivial
 ·refine rM hc (key1) [(1000000,.nm 1000000),(70,.nm 70)] [] ?_ ?_ ?_
  ·first|exact eN|refine eM ?_
  ·simp only[Pp]
   first|exact eN|refine eM ?_
  ·rintro _ _ ⟨rfl,rfl⟩
   refine⟨[(1000000,.nm 1000000),(70,.nm 70)],.tup [.p T3 a,.p T3 b],[(1000000,.arr 108 Aq l),(70,.box 3 false [.p T3 (0:Int)])],rfl,rfl,?_,?_,rfl,rfl,?_⟩
   ·simp only[Pp]
    first|exact eN|refine eM ?_
   ·first|exact eN|refine eM ?_
   ·refine rL [0,1,2,3,4,5,12] hc ?_ ?_
    ·trivial
    ·repeat'(first|exact trivial|refine eS rfl ?_|refine AB ?_|refine rX [0,1,2,3,4,5,12] hc ?_ ?_|refine rC ?_ ?_<;>intro AA<;>try(cases AA;done))
     refine cP 5 hc ?_ ?_
     ·trivial
     ·refine rM hc (key2) [(1000000,.nm 1000000),(70,.nm 70)] [] ?_ ?_ ?_
      ·first|exact eN|refine eM ?_
      ·simp only[Pp]
       first|exact eN|refine eM ?_
      ·rintro _ _ ⟨rfl,rfl⟩
       refine⟨[(1000000,.nm 1000000),(70,.nm 70)],.tup [.p T3 b,.p T3 c],[(1000000,.arr 108 Aq l),(70,.box 3 false [.p T3 (0:Int)])],rfl,rfl,?_,?_,rfl,rfl,?_⟩
       ·simp only[Pp]
        first|exact eN|refine eM ?_
       ·first|exact eN|refine eM ?_
       ·refine rL [0,1,2,3,4,5,12] hc ?_ ?_
        ·trivial
        ·repeat'(first|exact trivial|refine eS rfl ?_|refine AB ?_|refine rX [0,1,2,3,4,5,12] hc ?_ ?_|refine rC ?_ ?_<;>intro AA<;>try(cases AA;done))
         refine cP 5 hc ?_ ?_
         ·trivial
         ·refine rM hc (key1) [(1000000,.nm 1000000),(70,.nm 70)] [] ?_ ?_ ?_
          ·first|exact eN|refine eM ?_
          ·simp only[Pp]
           first|exact eN|refine eM ?_
          ·rintro _ _ ⟨rfl,rfl⟩
           refine⟨[(1000000,.nm 1000000),(70,.nm 70)],.tup [.p T3 a,.p T3 b],[(1000000,.arr 108 Aq l),(70,.box 3 false [.p T3 (0:Int)])],rfl,rfl,?_,?_,rfl,rfl,?_⟩
           ·simp only[Pp]
            first|exact eN|refine eM ?_
           ·first|exact eN|refine eM ?_
           ·refine rL [0,1,2,3,4,5,12] hc ?_ ?_
            ·trivial
            ·repeat'(first|exact trivial|refine eS rfl ?_|refine AB ?_|refine rX [0,1,2,3,4,5,12] hc ?_ ?_|refine rC ?_ ?_<;>intro AA<;>try(cases AA;done))
             exact BE hc [.tmp 12] rfl (.inl rfl) (.p T3 b) eT ⟨rfl,rfl⟩
theorem LJ (l:List (Int×Int)) (hs:LE l) {b:Int} (b0:1≤b) (bl:b+1<(l.length:Int)) (hl:l.length≤100000):B8 Tryz.prog 228 [.sr 1000000 Aq 0 l.length,.p T3 b,.bp 70 [] 0,.fn 172] (Pp l) [1000000,70] (fun res objs'=>res=.p T3 b∧objs'=Pp l):=by
 refine CQ Tryz.func228 (by kernel_rfl) rfl Tryz.ntmps228 (by simp only[List.length_cons,List.length_nil];omega) (by kernel_rfl) rfl rfl (AG []) AJ ?_
 intro w0 K O0 ρ0 hc hok1 hok2
 simp only[BG,Pp]
 repeat'(first|exact trivial|refine eS rfl ?_|refine AB ?_|refine rX [0,1,2,3,8] hc ?_ ?_|refine rC ?_ ?_<;>intro AA<;>try(cases AA;done))
 refine cP 8 hc ?_ ?_
 ·exact eV
 ·refine rM hc (Pq l hs (a:=b-1) (b:=b) (c:=b+1) (by omega) (by omega) (by omega) bl) [(1000000,.nm 1000000),(70,.nm 70)] [] ?_ ?_ ?_
  ·first|exact eN|refine eM ?_
  ·simp only[Pp]
   first|exact eN|refine eM ?_
  ·rintro _ _ ⟨rfl,rfl⟩
   refine⟨[(1000000,.nm 1000000),(70,.nm 70)],.p T3 b,[(1000000,.arr 108 Aq l),(70,.box 3 false [.p T3 (0:Int)])],rfl,rfl,?_,?_,rfl,rfl,?_⟩
   ·simp only[Pp]
    first|exact eN|refine eM ?_
   ·first|exact eN|refine eM ?_
   ·refine rL [0,1,2,3,8] hc ?_ ?_
    ·trivial
    ·repeat'(first|exact trivial|refine eS rfl ?_|refine AB ?_|refine rX [0,1,2,3,8] hc ?_ ?_|refine rC ?_ ?_<;>intro AA<;>try(cases AA;done))
     exact BE hc [.tmp 8] rfl (.inl rfl) (.p T3 b) eT ⟨rfl,rfl⟩
theorem eQ (l:List (Int×Int)) (hs:LE l) (h0:1≤l.length) (hl:l.length≤100000):B8 Tryz.prog 222 [.sr 1000000 Aq 0 l.length,.p T3 (0:Int),.p T3 (l.length:Int),.fn 172] [(1000000,.arr 108 Aq l)] [1000000] (fun res objs'=>res=.p .bool true∧objs'=[(1000000,.arr 108 Aq l)]):=by
 refine CQ Tryz.func222 (by kernel_rfl) rfl Tryz.ntmps222 (by simp only[List.length_cons,List.length_nil];omega) (by kernel_rfl) rfl rfl (AG [(172,E4)]) (AF Jt AJ) ?_
 intro w0 K O0 ρ0 hc hok1 hok2
 simp only[BG]
 repeat'(first|exact trivial|refine eS rfl ?_|refine AB ?_|refine rX [0,1,2,3,8,9,10,11,12,16,36,41,45,65,69,84,104,109,124] hc ?_ ?_|refine rC ?_ ?_<;>intro AA<;>try(cases AA;done))
 ·exact eV
 ·refine AL (ι:=Unit) (fun u=>⟨[(0,.sr 1000000 Aq 0 l.length),(1,.p T3 (0:Int)),(2,.p T3 (l.length:Int)),(3,.fn 172),(9,.p T3 (1:Int)),(10,.p T3 (0:Int))],[(1000000,.arr 108 Aq l)]⟩) (fun u=>0) () (AC [(1000000,.nm 1000000)] rfl rfl ?_ ?_) (fun u=>?_)
  ·first|exact eN|refine eM ?_
  ·first|exact eN|refine eM ?_
   rfl
  ·repeat'(first|exact trivial|refine eS rfl ?_|refine AB ?_|refine rX [0,1,2,3,8,9,10,11,12,16,36,41,45,65,69,84,104,109,124] hc ?_ ?_)
   refine rC (fun AA=>?_) (fun AA=>?_)
   ·repeat'(first|exact trivial|refine eS rfl ?_|refine AB ?_|refine rX [0,1,2,3,8,9,10,11,12,16,36,41,45,65,69,84,104,109,124] hc ?_ ?_)
    refine AL (ι:={i:Nat//1≤i∧i≤l.length}) (fun i=>⟨[(0,.sr 1000000 Aq 0 l.length),(1,.p T3 (0:Int)),(2,.p T3 (l.length:Int)),(3,.fn 172),(9,.p (.int .i64) (i.1:Int)),(10,.p T3 (0:Int))],[(1000000,.arr 108 Aq l)]⟩) (fun i=>l.length-i.1) ⟨1,Nat.le_refl _,h0⟩ (AC [(1000000,.nm 1000000)] rfl rfl ?_ ?_) (fun i=>?_)
    ·first|exact eN|refine eM ?_
    ·first|exact eN|refine eM ?_
     rfl
    ·obtain⟨i,hi1,hi2⟩:=i
     have hlt:=fun(h:i<l.length)=>Xu (Tm hs (i:=i-1) (j:=i) (by omega) h)
     have him:((i:Int)-1).toNat=i-1:=by omega
     simp only
     repeat'(first|exact trivial|refine eS rfl ?_|refine AB ?_|refine rX [0,1,2,3,8,9,10,11,12,16,36,41,45,65,69,84,104,109,124] hc ?_ ?_)
     ·dsimp only[Ty.den]at *
      exact⟨fun h=>h,fun _=>⟨by omega,by omega⟩,fun _=>⟨by omega,by omega⟩⟩
     ·refine rC (fun hcond2=>?_) (fun hcond2=>?_)
      ·repeat'(first|exact trivial|refine eS rfl ?_|refine AB ?_|refine rX [0,1,2,3,8,9,10,11,12,16,36,41,45,65,69,84,104,109,124] hc ?_ ?_)
       ·exact eV
       ·refine⟨⟨i+1,by omega,Int.ofNat_lt.1 hcond2.1⟩,by have:=Int.ofNat_lt.1 hcond2.1;simp only;omega,AC [(1000000,.nm 1000000)] rfl rfl ?_ ?_⟩
        ·first|exact eN|refine eM ?_
        ·first|exact eN|refine eM ?_
      ·have hie:i=l.length:=by
        refine Classical.byContradiction fun e=>?_
        have h2:i<l.length:=by omega
        have h3:=hcond2 (Int.ofNat_lt.2 h2)
        rw[him]at h3
        exact hlt h2 h3
       subst hie
       repeat'(first|exact trivial|refine eS rfl ?_|refine AB ?_|refine rX [0,1,2,3,8,9,10,11,12,16,36,41,45,65,69,84,104,109,124] hc ?_ ?_)
       refine rC (fun hcond3=>?_) (fun hcond3=>?_)
       ·repeat'(first|exact trivial|refine eS rfl ?_|refine AB ?_|refine rX [0,1,2,3,8,9,10,11,12,16,36,41,45,65,69,84,104,109,124] hc ?_ ?_)
        exact BE hc [.tmp 8] rfl (.inl rfl) (.p .bool true) eT ⟨rfl,rfl⟩
       ·cases hcond3
   ·exact absurd AA (by decide)
theorem r7 (l:List (Int×Int)) (hs:LE l) (h0:13≤l.length) (hl:l.length≤100000):B8 Tryz.prog 220 [.sr 1000000 Aq 0 l.length,.p T3 (0:Int),.p T3 (l.length:Int),.fn 172] [(1000000,.arr 108 Aq l)] [1000000] (fun res objs'=>(∃j:Int,res=.tup [.p T3 j,.p T3 (1:Int)])∧objs'=[(1000000,.arr 108 Aq l)]):=by
 refine CQ Tryz.func220 (by kernel_rfl) rfl Tryz.ntmps220 (by simp only[List.length_cons,List.length_nil];omega) (by kernel_rfl) rfl rfl (AG []) AJ ?_
 intro w0 K O0 ρ0 hc hok1 hok2
 simp only[BG]
 have ht:0≤((l.length:Int)-0).tdiv 4∧4*((l.length:Int)-0).tdiv 4≤(l.length:Int)∧(l.length:Int)<4*((l.length:Int)-0).tdiv 4+4:=by
  rw[Int.sub_zero,show ((l.length:Int)).tdiv 4=((l.length / 4:Nat):Int) from rfl]
  omega
 obtain⟨ht0,ht1,ht2⟩:=ht
 repeat'(first|exact trivial|refine eS rfl ?_|refine AB ?_|refine rX [0,1,2,3,8,9,10,11,12,13,14,34,36,55,57,60] hc ?_ ?_|refine rC ?_ ?_<;>intro AA<;>try(cases AA;done))
 ·omega
 ·refine⟨⟨by decide,?_⟩,?_,?_⟩<;>omega
 ·refine⟨⟨by decide,?_⟩,?_,?_⟩<;>omega
 ·refine⟨⟨by decide,?_⟩,?_,?_⟩<;>omega
 ·simp only[Int.sub_zero,Int.zero_add]at *
  generalize (l.length:Int).tdiv 4=t at *
  refine cP 3 hc ?_ ?_
  ·trivial
  ·refine rM hc (LJ l hs (b:=t*1) (by omega) (by omega) hl) [(1000000,.nm 1000000),(70,.nm 11)] [] ?_ ?_ ?_
   ·first|exact eN|refine eM ?_
   ·simp only[Pp]
    first|exact eN|refine eM ?_
   ·rintro _ _ ⟨rfl,rfl⟩
    refine⟨[(1000000,.nm 1000000),(11,.nm 70)],.p T3 (t*1),[(1000000,.arr 108 Aq l),(11,.box 3 false [.p T3 (0:Int)])],rfl,rfl,?_,?_,rfl,rfl,?_⟩
    ·simp only[Pp]
     first|exact eN|refine eM ?_
    ·first|exact eN|refine eM ?_
    ·refine rL [0,1,2,3,8,9,10,11,12,13,14,34,36,55,57,60] hc ?_ ?_
     ·trivial
     ·repeat'(first|exact trivial|refine eS rfl ?_|refine AB ?_|refine rX [0,1,2,3,8,9,10,11,12,13,14,34,36,55,57,60] hc ?_ ?_|refine rC ?_ ?_<;>intro AA<;>try(cases AA;done))
      refine cP 3 hc ?_ ?_
      ·trivial
      ·refine rM hc (LJ l hs (b:=t*2) (by omega) (by omega) hl) [(1000000,.nm 1000000),(70,.nm 11)] [] ?_ ?_ ?_
       ·first|exact eN|refine eM ?_
       ·simp only[Pp]
        first|exact eN|refine eM ?_
       ·rintro _ _ ⟨rfl,rfl⟩
        refine⟨[(1000000,.nm 1000000),(11,.nm 70)],.p T3 (t*2),[(1000000,.arr 108 Aq l),(11,.box 3 false [.p T3 (0:Int)])],rfl,rfl,?_,?_,rfl,rfl,?_⟩
        ·simp only[Pp]
         first|exact eN|refine eM ?_
        ·first|exact eN|refine eM ?_
        ·refine rL [0,1,2,3,8,9,10,11,12,13,14,34,36,55,57,60] hc ?_ ?_
         ·trivial
         ·repeat'(first|exact trivial|refine eS rfl ?_|refine AB ?_|refine rX [0,1,2,3,8,9,10,11,12,13,14,34,36,55,57,60] hc ?_ ?_|refine rC ?_ ?_<;>intro AA<;>try(cases AA;done))
          refine cP 3 hc ?_ ?_
          ·trivial
          ·refine rM hc (LJ l hs (b:=t*3) (by omega) (by omega) hl) [(1000000,.nm 1000000),(70,.nm 11)] [] ?_ ?_ ?_
           ·first|exact eN|refine eM ?_
           ·simp only[Pp]
            first|exact eN|refine eM ?_
           ·rintro _ _ ⟨rfl,rfl⟩
            refine⟨[(1000000,.nm 1000000),(11,.nm 70)],.p T3 (t*3),[(1000000,.arr 108 Aq l),(11,.box 3 false [.p T3 (0:Int)])],rfl,rfl,?_,?_,rfl,rfl,?_⟩
            ·simp only[Pp]
             first|exact eN|refine eM ?_
            ·first|exact eN|refine eM ?_
            ·refine rL [0,1,2,3,8,9,10,11,12,13,14,34,36,55,57,60] hc ?_ ?_
             ·trivial
             ·repeat'(first|exact trivial|refine eS rfl ?_|refine AB ?_|refine rX [0,1,2,3,8,9,10,11,12,13,14,34,36,55,57,60] hc ?_ ?_|refine rC ?_ ?_<;>intro AA<;>try(cases AA;done))
              refine cP 5 hc ?_ ?_
              ·trivial
              ·refine rM hc (Pq l hs (a:=t*1) (b:=t*2) (c:=t*3) (by omega) (by omega) (by omega) (by omega)) [(1000000,.nm 1000000),(70,.nm 11)] [] ?_ ?_ ?_
               ·first|exact eN|refine eM ?_
               ·simp only[Pp]
                first|exact eN|refine eM ?_
               ·rintro _ _ ⟨rfl,rfl⟩
                refine⟨[(1000000,.nm 1000000),(11,.nm 70)],.p T3 (t*2),[(1000000,.arr 108 Aq l),(11,.box 3 false [.p T3 (0:Int)])],rfl,rfl,?_,?_,rfl,rfl,?_⟩
                ·simp only[Pp]
                 first|exact eN|refine eM ?_
                ·first|exact eN|refine eM ?_
                ·refine rL [0,1,2,3,8,9,10,11,12,13,14,34,36,55,57,60] hc ?_ ?_
                 ·trivial
                 ·repeat'(first|exact trivial|refine eS rfl ?_|refine AB ?_|refine rX [0,1,2,3,8,9,10,11,12,13,14,34,36,55,57,60] hc ?_ ?_|refine rC ?_ ?_<;>intro AA<;>try(cases AA;done))
                  refine Ev.ent (σ':=⟨[(8,.p T3 (t*2)),(9,.p T3 (1:Int))],[(1000000,.arr 108 Aq l)]⟩) ?_ (AC [(1000000,.nm 1000000)] rfl rfl ?_ ?_)
                  ·exact BE hc [.tmp 8,.tmp 9] rfl (.inl rfl) (.tup [.p T3 (t*2),.p T3 (1:Int)]) eT ⟨⟨_,rfl⟩,rfl⟩
                  ·first|exact eN|refine eM ?_
                  ·first|exact eN|refine eM ?_
 ·simp only[Int.sub_zero,Int.zero_add]at *
  generalize (l.length:Int).tdiv 4=t at *
  refine cP 5 hc ?_ ?_
  ·trivial
  ·refine rM hc (Pq l hs (a:=t*1) (b:=t*2) (c:=t*3) (by omega) (by omega) (by omega) (by omega)) [(1000000,.nm 1000000),(70,.nm 11)] [] ?_ ?_ ?_
   ·first|exact eN|refine eM ?_
   ·simp only[Pp]
    first|exact eN|refine eM ?_
   ·rintro _ _ ⟨rfl,rfl⟩
    refine⟨[(1000000,.nm 1000000),(11,.nm 70)],.p T3 (t*2),[(1000000,.arr 108 Aq l),(11,.box 3 false [.p T3 (0:Int)])],rfl,rfl,?_,?_,rfl,rfl,?_⟩
    ·simp only[Pp]
     first|exact eN|refine eM ?_
    ·first|exact eN|refine eM ?_
    ·refine rL [0,1,2,3,8,9,10,11,12,13,14,34,36,55,57,60] hc ?_ ?_
     ·trivial
     ·repeat'(first|exact trivial|refine eS rfl ?_|refine AB ?_|refine rX [0,1,2,3,8,9,10,11,12,13,14,34,36,55,57,60] hc ?_ ?_|refine rC ?_ ?_<;>intro AA<;>try(cases AA;done))
      refine Ev.ent (σ':=⟨[(8,.p T3 (t*2)),(9,.p T3 (1:Int))],[(1000000,.arr 108 Aq l)]⟩) ?_ (AC [(1000000,.nm 1000000)] rfl rfl ?_ ?_)
      ·exact BE hc [.tmp 8,.tmp 9] rfl (.inl rfl) (.tup [.p T3 (t*2),.p T3 (1:Int)]) eT ⟨⟨_,rfl⟩,rfl⟩
      ·first|exact eN|refine eM ?_
      ·first|exact eN|refine eM ?_
 ·exfalso
  omega
theorem A3A (l:List (Int×Int)) (lim:Int) (hl:l.length≤200) (hlim:13≤l.length→lim≠0) (hs:LE l):B8 Tryz.prog 215 [.sr 1000000 Aq 0 l.length,.p T3 (0:Int),.p T3 (l.length:Int),.p T3 lim,.fn 172] [(1000000,.arr 108 Aq l)] [1000000] (fun res objs'=>res=.raw (.tuple #[])∧objs'=[(1000000,.arr 108 Aq l)]):=by
 refine CQ Tryz.func215 (by kernel_rfl) rfl Tryz.ntmps215 (by simp only[List.length_cons,List.length_nil];omega) (by kernel_rfl) rfl rfl (AG []) AJ ?_
 intro w0 K O0 ρ0 hc hok1 hok2
 simp only[BG]
 repeat'(first|exact trivial|refine eS rfl ?_|refine AB ?_|refine rX [0,1,2,3,4,10,11,12,13,14,15,16,17,18,19,20,25,32,39,56,75,80,97,125] hc ?_ ?_|refine rC ?_ ?_<;>intro AA<;>try(cases AA;done))
 refine AL (ι:=Unit) (fun x=>⟨[(0,.sr 1000000 Aq 0 l.length),(1,.p T3 (0:Int)),(2,.p T3 (l.length:Int)),(3,.p T3 lim),(4,.fn 172),(10,.p .bool true),(11,.p .bool true)],[(1000000,.arr 108 Aq l)]⟩) (fun x=>0) () (AC [(1000000,.nm 1000000)] rfl rfl ?_ ?_) (fun x=>?_)
 ·first|exact eN|refine eM ?_
 ·first|exact eN|refine eM ?_
 ·repeat'(first|exact trivial|refine eS rfl ?_|refine AB ?_|refine rX [0,1,2,3,4,10,11,12,13,14,15,16,17,18,19,20,25,32,39,56,75,80,97,125] hc ?_ ?_)
  ·omega
  ·refine rC (fun AA=>?_) (fun AA=>?_)
   ·repeat'(first|exact trivial|refine eS rfl ?_|refine AB ?_|refine rX [0,1,2,3,4,10,11,12,13,14,15,16,17,18,19,20,25,32,39,56,75,80,97,125] hc ?_ ?_)
    refine cP 4 hc ?_ ?_
    ·trivial
    ·refine rM hc (Xs l (by omega) hs) [(1000000,.nm 1000000)] [] ?_ ?_ ?_
     ·first|exact eN|refine eM ?_
     ·first|exact eN|refine eM ?_
     ·rintro _ _ ⟨rfl,rfl⟩
      refine⟨[(1000000,.nm 1000000)],.raw (.tuple #[]),[(1000000,.arr 108 Aq l)],rfl,rfl,?_,?_,rfl,rfl,Dc ?_⟩
      ·first|exact eN|refine eM ?_
      ·first|exact eN|refine eM ?_
      ·repeat'(first|exact trivial|refine eS rfl ?_|refine AB ?_|refine rX [0,1,2,3,4,10,11,12,13,14,15,16,17,18,19,20,25,32,39,56,75,80,97,125] hc ?_ ?_)
       exact BE hc [] rfl (.inl rfl) (.raw (.tuple #[])) rfl ⟨rfl,rfl⟩
   ·have h13:13≤l.length:=by
     have h:=Int.not_le.2 AA
     omega
    repeat'(first|exact trivial|refine eS rfl ?_|refine AB ?_|refine rX [0,1,2,3,4,10,11,12,13,14,15,16,17,18,19,20,25,32,39,56,75,80,97,125] hc ?_ ?_)
    refine rC (fun AA=>?_) (fun AA=>?_)
    ·exfalso
     exact hlim h13 AA
    ·repeat'(first|exact trivial|refine eS rfl ?_|refine AB ?_|refine rX [0,1,2,3,4,10,11,12,13,14,15,16,17,18,19,20,25,32,39,56,75,80,97,125] hc ?_ ?_)
     refine rC (fun AA=>?_) (fun AA=>?_)
     ·cases AA
     ·repeat'(first|exact trivial|refine eS rfl ?_|refine AB ?_|refine rX [0,1,2,3,4,10,11,12,13,14,15,16,17,18,19,20,25,32,39,56,75,80,97,125] hc ?_ ?_)
      refine cP 4 hc ?_ ?_
      ·trivial
      ·refine rM hc (r7 l hs h13 (by omega)) [(1000000,.nm 1000000)] [] ?_ ?_ ?_
       ·first|exact eN|refine eM ?_
       ·first|exact eN|refine eM ?_
       ·rintro _ _ ⟨⟨j,rfl⟩,rfl⟩
        refine⟨[(1000000,.nm 1000000)],.tup [.p T3 j,.p T3 (1:Int)],[(1000000,.arr 108 Aq l)],rfl,rfl,?_,?_,rfl,rfl,?_⟩
        ·first|exact eN|refine eM ?_
        ·first|exact eN|refine eM ?_
        ·refine rL [0,1,2,3,4,10,11,12,13,14,15,16,17,18,19,20,25,32,39,56,75,80,97,125] hc ?_ ?_
         ·trivial
         ·repeat'(first|exact trivial|refine eS rfl ?_|refine AB ?_|refine rX [0,1,2,3,4,10,11,12,13,14,15,16,17,18,19,20,25,32,39,56,75,80,97,125] hc ?_ ?_)
          refine rC (fun AA=>?_) (fun AA=>?_)
          ·exact absurd AA (by decide)
          ·repeat'(first|exact trivial|refine eS rfl ?_|refine AB ?_|refine rX [0,1,2,3,4,10,11,12,13,14,15,16,17,18,19,20,25,32,39,56,75,80,97,125] hc ?_ ?_)
           refine rC (fun AA=>?_) (fun AA=>?_)
           ·repeat'(first|exact trivial|refine eS rfl ?_|refine AB ?_|refine rX [0,1,2,3,4,10,11,12,13,14,15,16,17,18,19,20,25,32,39,56,75,80,97,125] hc ?_ ?_)
            refine cP 4 hc ?_ ?_
            ·trivial
            ·refine rM hc (eQ l hs (by omega) (by omega)) [(1000000,.nm 1000000)] [] ?_ ?_ ?_
             ·first|exact eN|refine eM ?_
             ·first|exact eN|refine eM ?_
             ·rintro _ _ ⟨rfl,rfl⟩
              refine⟨[(1000000,.nm 1000000)],.p .bool true,[(1000000,.arr 108 Aq l)],rfl,rfl,?_,?_,rfl,rfl,Dc ?_⟩
              ·first|exact eN|refine eM ?_
              ·first|exact eN|refine eM ?_
              ·repeat'(first|exact trivial|refine eS rfl ?_|refine AB ?_|refine rX [0,1,2,3,4,10,11,12,13,14,15,16,17,18,19,20,25,32,39,56,75,80,97,125] hc ?_ ?_)
               refine rC (fun AA=>?_) (fun AA=>?_)
               ·repeat'(first|exact trivial|refine eS rfl ?_|refine AB ?_|refine rX [0,1,2,3,4,10,11,12,13,14,15,16,17,18,19,20,25,32,39,56,75,80,97,125] hc ?_ ?_)
                exact BE hc [] rfl (.inl rfl) (.raw (.tuple #[])) rfl ⟨rfl,rfl⟩
               ·cases AA
           ·cases AA
end
/- Functions of Go's library under graph.canonical: Values, AppendSeq, Collect, SortFunc, SortedFunc, of what is sorted. -/
section
theorem xL {L:Go.Loop} (h1:L.state=.ready) (h2:L.pending=none):{ { L with state:=.busy } with state:=.ready,pending:=none }=L:=by
 cases L;simp_all
theorem WJ (l:List (Int×Int)):B8 Tryz.prog 171 [.p CE l] [] [] (fun res objs'=>res=.clo 203 [1]∧objs'=[(1,.box 86 false [.p CE l])]):=by
 refine CQ Tryz.func171 (by kernel_rfl) rfl Tryz.ntmps171 (by simp only[List.length_cons,List.length_nil];omega) (by kernel_rfl) rfl rfl (AG []) AJ ?_
 intro w0 K O0 ρ0 hc hok1 hok2
 simp only[BG]
 repeat'(first|exact trivial|refine eS rfl ?_|refine AB ?_|refine rX [0,1,2] hc ?_ ?_|refine rC ?_ ?_<;>intro AA<;>try(cases AA;done))
 exact BE hc [.tmp 2] rfl (.inl rfl) (.clo 203 [1]) eT ⟨rfl,rfl⟩
def B6 (l:List (Int×Int)) (L:Go.Loop) (tm:Array Value) (i:Nat):List (Nat×Obj):=[(1,.box 86 false [.p CE l]),(101,.loop L),(102,.frame tm [(2,.bp 2 [] 0),(6,.clo 203 [1])]),(2,.box 86 false [.sr 7 Aq 0 i]),(7,.arr 108 Aq (l.take i))]
theorem eU (l:List (Int×Int)) (hl:l.length≤100000) (L:Go.Loop) (tm:Array Value) (hY:∀i,i<l.length→ZL Tryz.prog 101 [.p Aq (l.getD i (0,0))] (B6 l L tm i) [1,101,102,2] (fun res objs'=>res=.p .bool true∧objs'=B6 l L tm (i+1))) :
  B8 Tryz.prog 203 [.yl 101,.bp 1 [] 0] (B6 l L tm 0) [1,101,102,2] (fun res objs'=>res=.raw (.tuple #[])∧objs'=B6 l L tm l.length):=by
 refine CQ Tryz.func203 (by kernel_rfl) rfl Tryz.ntmps203 (by simp only[List.length_cons,List.length_nil];omega) (by kernel_rfl) rfl rfl (AG []) AJ ?_
 intro w0 K O0 ρ0 hc hok1 hok2
 simp only[BG,B6]
 repeat'(first|exact trivial|refine eS rfl ?_|refine AB ?_|refine rX [0,1,4,5,6,7,8,14] hc ?_ ?_|refine rC ?_ ?_<;>intro AA<;>try(cases AA;done))
 refine AL (ι:={i:Nat//i≤l.length}) (fun i=>⟨[(0,.yl 101),(1,.bp 1 [] 0),(5,.p CE l),(6,.p (.int .i64) (l.length:Int)),(7,.p (.int .i64) (i.1:Int))],B6 l L tm i.1⟩) (fun i=>l.length-i.1) ⟨0,by omega⟩ (AC [(1,.nm 1),(101,.nm 101),(102,.nm 102),(2,.nm 2),(7,.nm 7)] rfl rfl ?_ ?_) (fun i=>?_)
 ·simp only[B6]
  first|exact eN|refine eM ?_
 ·first|exact eN|refine eM ?_
 ·obtain⟨i,hi⟩:=i
  simp only[B6]
  repeat'(first|exact trivial|refine eS rfl ?_|refine AB ?_|refine rX [0,1,4,5,6,7,8,14] hc ?_ ?_|refine rC ?_ ?_<;>intro AA<;>try(cases AA;done))
  ·exact eV
  ·have hil:i<l.length:=by exact eV
   refine cP 2 hc ?_ ?_
   ·trivial
   ·refine rY 101 101 hc (hY i hil) [(1,.nm 1),(101,.nm 101),(102,.nm 102),(2,.nm 2),(7,.nm 7)] [7] ?_ ?_ ?_
    ·first|exact eN|refine eM ?_
    ·simp only[B6]
     first|exact eN|refine eM ?_
    ·rintro _ _ ⟨rfl,rfl⟩
     refine⟨[(1,.nm 1),(101,.nm 101),(102,.nm 102),(2,.nm 2),(7,.nm 7)],.p .bool true,B6 l L tm (i+1),rfl,rfl,?_,?_,rfl,rfl,?_⟩
     ·simp only[B6]
      first|exact eN|refine eM ?_
     ·first|exact eN|refine eM ?_
     ·simp only[B6]
      refine GN [0,1,5,6,7,14] hc (by simp only[go_sem,Nat.reduceEqDiff,reduceCtorEq,Nat.reduceAdd,Nat.reduceSub,Nat.reduceMul,Nat.reduceLeDiff,Nat.reduceLT,Int.reduceLE,Int.reduceToNat,Int.reduceNeg,↓reduceIte];rfl) ?_ ?_
      ·trivial
      ·repeat'(first|exact trivial|refine eS rfl ?_|refine AB ?_|refine rX [0,1,4,5,6,7,8,14] hc ?_ ?_|refine rC ?_ ?_<;>intro AA<;>try(cases AA;done))
       ·exact eV
       ·refine⟨⟨i+1,by omega⟩,by simp only;omega,AC [(1,.nm 1),(101,.nm 101),(102,.nm 102),(2,.nm 2),(7,.nm 7)] rfl rfl ?_ ?_⟩
        ·simp only[B6]
         first|exact eN|refine eM ?_
        ·first|exact eN|refine eM ?_
  ·have hil:i=l.length:=by exact eV
   subst hil
   refine BE hc [] rfl (.inr rfl) (.raw (.tuple #[])) rfl ⟨rfl,?_⟩
   simp only[B6,List.take_length]
theorem Xv (l:List (Int×Int)) (hl:l.length≤100000):B8 Tryz.prog 214 [.raw (.slice none 0 0),.clo 203 [1]] [(1,.box 86 false [.p CE l])] [] (fun res objs'=>res=.sr 7 Aq 0 l.length∧objs'=[(7,.arr 108 Aq l)]):=by
 refine A0m Tryz.func214 (by kernel_rfl) rfl Tryz.ntmps214 (by simp only[List.length_cons,List.length_nil];omega) (by kernel_rfl) rfl rfl (AG []) AJ ?_
 intro w0 K O0 ρ0 hc hok1 hok2
 simp only[BG]
 repeat'(first|exact trivial|refine eS rfl ?_|refine AB ?_|refine rX [0,1,2,4,5,6,7] hc ?_ ?_|refine rC ?_ ?_<;>intro AA<;>try(cases AA;done))
 refine vM hc rfl rfl (by simp only[go_sem,Nat.reduceEqDiff,reduceCtorEq,Nat.reduceAdd,Nat.reduceSub,Nat.reduceMul,Nat.reduceLeDiff,Nat.reduceLT,Int.reduceLE,Int.reduceToNat,Int.reduceNeg,↓reduceIte];rfl) 101 103 102 rfl rfl rfl rfl ?_
 intro L tm hL1 hL2 hL3 hL4 hL5 hL6 htm
 refine⟨_,B6 l L tm 0,[1,101,102,2],_,[(1,.nm 1),(101,.nm 101),(102,.nm 102),(2,.nm 2),(7,.nil)],[],eU l hl L tm ?_,rfl,rfl,?_,?_,rfl,?_⟩
 ·intro i hi
  refine vL (fr:=102) rfl rfl hL1 hL4 hL5 hL6 hL3 htm rfl (by kernel_rfl) (by simp) rfl rfl (by kernel_rfl) (by kernel_rfl) (AG []) AJ ?_
  intro w1 K1 O1 ρ1 lb hc hok3 hok4 hb
  simp only[B6,HN]
  repeat'(first|exact trivial|refine eS rfl ?_|refine AB ?_|refine rX [0,1,2,4,5,6,7] hc ?_ ?_|refine rC ?_ ?_<;>intro AA<;>try(cases AA;done))
  refine⟨rfl,?_⟩
  repeat'(first|exact trivial|refine eS rfl ?_|refine AB ?_|refine rX [0,1,2,4,5,6,7] hc ?_ ?_|refine rC ?_ ?_<;>intro AA<;>try(cases AA;done))
  ·simp only[AP];omega
  ·have e:List.take i (List.take i l)++[((l.getD i (0,0)).1,(l.getD i (0,0)).2)]=l.take (i+1):=by
    rw[Ac l (0,0) hi,List.take_of_length_le (Nat.le_of_eq (by rw[List.length_take];omega):(l.take i).length≤i)]
   refine Ev.ent (σ':=⟨[],[(1,.box 86 false [.p CE l]),(101,.loop { L with state:=.busy }),(102,.frame tm [(2,.bp 2 [] 0),(6,.clo 203 [1])]),(2,.box 86 false [.sr 7 Aq 0 (i+1)]),(7,.arr 108 Aq (l.take (i+1)))]⟩) ?_ (AC [(1,.nm 1),(101,.nm 101),(102,.nm 102),(2,.nm 2),(7,.nm 7)] rfl rfl ?_ ?_)
   ·refine qI hc (yn:=101) rfl rfl (by simp) hb ⟨rfl,?_⟩
    simp only[B6,go_sem,Nat.reduceEqDiff,reduceCtorEq,Nat.reduceAdd,Nat.reduceSub,Nat.reduceMul,Nat.reduceLeDiff,Nat.reduceLT,Int.reduceLE,Int.reduceToNat,Int.reduceNeg,↓reduceIte,xL hL1 hL2]
   ·first|exact eN|refine eM ?_
    exact e
   ·first|exact eN|refine eM ?_
 ·simp only[Bh]
  first|exact eN|refine eM ?_
 ·simp only[Bh,B6]
  first|exact eN|refine eM ?_
 ·rintro _ _ ⟨rfl,rfl⟩
  refine⟨[(1,.nm 1),(101,.nm 101),(102,.nm 102),(2,.nm 2),(7,.nm 7)],B6 l L tm l.length,L,rfl,rfl,?_,rfl,rfl,rfl,by rw[hL1];rfl,?_⟩
  ·simp only[B6]
   first|exact eN|refine eM ?_
  ·intro b
   rw[hL2]
   simp only[EvJ,B6,Bh,go_sem,Nat.reduceEqDiff,reduceCtorEq,Nat.reduceAdd,Nat.reduceSub,Nat.reduceMul,Nat.reduceLeDiff,Nat.reduceLT,Int.reduceLE,Int.reduceToNat,Int.reduceNeg,↓reduceIte]
   replace hc:=qJ (dn:=103) (b:=b) hc
   repeat'(first|exact trivial|refine eS rfl ?_|refine AB ?_|refine rX [0,1,2,4,5,6,7] hc ?_ ?_|refine rC ?_ ?_<;>intro AA<;>try(cases AA;done))
   refine Ev.ent (σ':=⟨[(4,.sr 7 Aq 0 l.length)],[(7,.arr 108 Aq l),(103,.dfr)]⟩) ?_ (AC [(7,.nm 7),(103,.nm 103)] rfl rfl ?_ ?_)
   ·exact vO hc [.tmp 4] rfl (.inl rfl) rfl rfl (.sr 7 Aq 0 l.length) eT ⟨rfl,by simp only[go_sem,Nat.reduceEqDiff,reduceCtorEq,Nat.reduceAdd,Nat.reduceSub,Nat.reduceMul,Nat.reduceLeDiff,Nat.reduceLT,Int.reduceLE,Int.reduceToNat,Int.reduceNeg,↓reduceIte]⟩
   ·first|exact eN|refine eM ?_
   ·first|exact eN|refine eM ?_
theorem eW (l:List (Int×Int)) (hl:l.length≤100000):B8 Tryz.prog 201 [.clo 203 [1]] [(1,.box 86 false [.p CE l])] [] (fun res objs'=>res=.sr 7 Aq 0 l.length∧objs'=[(7,.arr 108 Aq l)]):=by
 refine CQ Tryz.func201 (by kernel_rfl) rfl Tryz.ntmps201 (by simp only[List.length_cons,List.length_nil];omega) (by kernel_rfl) rfl rfl (AG []) AJ ?_
 intro w0 K O0 ρ0 hc hok1 hok2
 simp only[BG]
 repeat'(first|exact trivial|refine eS rfl ?_|refine AB ?_|refine rX [0,2] hc ?_ ?_|refine rC ?_ ?_<;>intro AA<;>try(cases AA;done))
 refine cP 1 hc ?_ ?_
 ·trivial
 ·refine rM hc (Xv l hl) [(1,.nm 1)] [1] ?_ ?_ ?_
  ·first|exact eN|refine eM ?_
  ·first|exact eN|refine eM ?_
  ·rintro _ _ ⟨rfl,rfl⟩
   refine⟨[(7,.nm 7)],.sr 7 Aq 0 l.length,[(7,.arr 108 Aq l)],rfl,rfl,?_,?_,rfl,rfl,?_⟩
   ·first|exact eN|refine eM ?_
   ·first|exact eN|refine eM ?_
   ·refine GN [2] hc (by simp only[go_sem,Nat.reduceEqDiff,reduceCtorEq,Nat.reduceAdd,Nat.reduceSub,Nat.reduceMul,Nat.reduceLeDiff,Nat.reduceLT,Int.reduceLE,Int.reduceToNat,Int.reduceNeg,↓reduceIte];rfl) ?_ ?_
    ·trivial
    ·repeat'(first|exact trivial|refine eS rfl ?_|refine AB ?_|refine rX [0,2] hc ?_ ?_|refine rC ?_ ?_<;>intro AA<;>try(cases AA;done))
     exact BE hc [.tmp 2] rfl (.inl rfl) (.sr 7 Aq 0 l.length) eT ⟨rfl,rfl⟩
theorem xM (x:Int) (h0:0≤x) (h1:x<256):B8 Tryz.prog 160 [.p (.int .u64) x] [] [] (fun res objs'=>(∃n:Int,res=.p T3 n∧(13≤x→n≠0))∧objs'=[]):=by
 refine CQ Tryz.func160 (by kernel_rfl) rfl Tryz.ntmps160 (by simp only[List.length_cons,List.length_nil];omega) (by kernel_rfl) rfl rfl (AG []) AJ ?_
 intro w0 K O0 ρ0 hc hok1 hok2
 simp only[BG]
 repeat'(first|exact trivial|refine eS rfl ?_|refine AB ?_|refine rX [0,2,4,8,14] hc ?_ ?_|refine rC ?_ ?_<;>intro AA<;>try(cases AA;done))
 all_goals first|(exfalso;omega)|skip
 refine Ko [0,2] hc rfl (by simp only[go_sem,Nat.reduceEqDiff,reduceCtorEq,Nat.reduceAdd,Nat.reduceSub,Nat.reduceMul,Nat.reduceLeDiff,Nat.reduceLT,Int.reduceLE,Int.reduceToNat,Int.reduceNeg,↓reduceIte,ByteArray.size,List.size_toArray,AP];rfl) ?_ ?_
 ·have hu:∀u:UInt8,((u.toNat:Nat):Int)≤255:=fun u=>by have:=u.toNat_lt;omega
  refine⟨⟨h0,by omega⟩,⟨h0,?_⟩,⟨?_,?_⟩,?_,?_⟩
  ·have h2:x<((256:Nat):Int):=h1
   exact h2
  ·exact Int.le_trans (by decide) (Int.natCast_nonneg _)
  ·exact Int.le_trans (hu _) (by decide)
  ·rw[Int.zero_add];exact Int.le_trans (by decide) (Int.natCast_nonneg _)
  ·rw[Int.zero_add];exact Int.le_trans (hu _) (by decide)
 ·repeat'(first|exact trivial|refine eS rfl ?_|refine AB ?_|refine rX [0,2,4,8,14] hc ?_ ?_|refine rC ?_ ?_<;>intro AA<;>try(cases AA;done))
  refine BE hc [.tmp 2] rfl (.inl rfl) (.p T3 _) (by simp only[VP,p7,PP,VO,Iq,JY,IM,go_sem,Nat.reduceEqDiff,reduceCtorEq,Nat.reduceAdd,Nat.reduceSub,Nat.reduceMul,Nat.reduceLeDiff,Nat.reduceLT,Int.reduceLE,Int.reduceToNat,Int.reduceNeg,↓reduceIte];rfl) ⟨⟨_,rfl,fun h13=>?_⟩,rfl⟩
  rw[Int.zero_add]
  intro e
  replace e:=Int.ofNat.inj e
  have hk2:x.toNat<256:=by omega
  have hk3:13≤x.toNat:=by omega
  generalize x.toNat=k at *
  clear AA
  exact absurd e (by
   clear e
   revert hk3
   revert hk2
   revert k
   decide)
theorem A3B (x:Int) (h0:0≤x) (h1:x<256):B8 Tryz.prog 119 [.p (.int .u64) x] [] [] (fun res objs'=>(∃n:Int,res=.p T3 n∧(13≤x→n≠0))∧objs'=[]):=by
 refine CQ Tryz.func119 (by kernel_rfl) rfl Tryz.ntmps119 (by simp only[List.length_cons,List.length_nil];omega) (by kernel_rfl) rfl rfl (AG []) AJ ?_
 intro w0 K O0 ρ0 hc hok1 hok2
 simp only[BG]
 repeat'(first|exact trivial|refine eS rfl ?_|refine AB ?_|refine rX [0,2] hc ?_ ?_|refine rC ?_ ?_<;>intro AA<;>try(cases AA;done))
 refine cP 1 hc ?_ ?_
 ·trivial
 ·refine rM hc (xM x h0 h1) [] [] ?_ ?_ ?_
  ·first|exact eN|refine eM ?_
  ·first|exact eN|refine eM ?_
  ·rintro _ _ ⟨⟨n,rfl,hnz⟩,rfl⟩
   refine⟨[],.p T3 n,[],rfl,rfl,?_,?_,rfl,rfl,?_⟩
   ·first|exact eN|refine eM ?_
   ·first|exact eN|refine eM ?_
   ·refine GN [2] hc (by simp only[go_sem,Nat.reduceEqDiff,reduceCtorEq,Nat.reduceAdd,Nat.reduceSub,Nat.reduceMul,Nat.reduceLeDiff,Nat.reduceLT,Int.reduceLE,Int.reduceToNat,Int.reduceNeg,↓reduceIte];rfl) ?_ ?_
    ·trivial
    ·repeat'(first|exact trivial|refine eS rfl ?_|refine AB ?_|refine rX [0,2] hc ?_ ?_|refine rC ?_ ?_<;>intro AA<;>try(cases AA;done))
     exact BE hc [.tmp 2] rfl (.inl rfl) (.p T3 n) eT ⟨⟨_,rfl,hnz⟩,rfl⟩
theorem aB (l:List (Int×Int)) (hl:l.length≤200) (hs:LE l):B8 Tryz.prog 202 [.sr 1000000 Aq 0 l.length,.fn 172] [(1000000,.arr 108 Aq l)] [1000000] (fun res objs'=>res=.raw (.tuple #[])∧objs'=[(1000000,.arr 108 Aq l)]):=by
 refine CQ Tryz.func202 (by kernel_rfl) rfl Tryz.ntmps202 (by simp only[List.length_cons,List.length_nil];omega) (by kernel_rfl) rfl rfl (AG []) AJ ?_
 intro w0 K O0 ρ0 hc hok1 hok2
 simp only[BG]
 repeat'(first|exact trivial|refine eS rfl ?_|refine AB ?_|refine rX [0,1,4] hc ?_ ?_|refine rC ?_ ?_<;>intro AA<;>try(cases AA;done))
 refine cP 4 hc ?_ ?_
 ·exact eV
 ·refine rM hc (A3B (l.length:Int) (by omega) (by omega)) [] [] ?_ ?_ ?_
  ·first|exact eN|refine eM ?_
  ·first|exact eN|refine eM ?_
  ·rintro _ _ ⟨⟨n,rfl,hnz⟩,rfl⟩
   refine⟨[],.p T3 n,[],rfl,rfl,?_,?_,rfl,rfl,?_⟩
   ·first|exact eN|refine eM ?_
   ·first|exact eN|refine eM ?_
   ·refine Re hc 1 (by simp only[go_sem,Nat.reduceEqDiff,reduceCtorEq,Nat.reduceAdd,Nat.reduceSub,Nat.reduceMul,Nat.reduceLeDiff,Nat.reduceLT,Int.reduceLE,Int.reduceToNat,Int.reduceNeg,↓reduceIte];rfl) ?_ ?_
    ·trivial
    ·refine rM hc (A3A l n hl (fun h=>hnz (by omega)) hs) [(1000000,.nm 1000000)] [] ?_ ?_ ?_
     ·first|exact eN|refine eM ?_
     ·first|exact eN|refine eM ?_
     ·rintro _ _ ⟨rfl,rfl⟩
      refine⟨[(1000000,.nm 1000000)],.raw (.tuple #[]),[(1000000,.arr 108 Aq l)],rfl,rfl,?_,?_,rfl,rfl,Dc ?_⟩
      ·first|exact eN|refine eM ?_
      ·first|exact eN|refine eM ?_
      ·repeat'(first|exact trivial|refine eS rfl ?_|refine AB ?_|refine rX [0,1,4] hc ?_ ?_|refine rC ?_ ?_<;>intro AA<;>try(cases AA;done))
       exact BE hc [] rfl (.inr rfl) (.raw (.tuple #[])) rfl ⟨rfl,rfl⟩
theorem Mi (l:List (Int×Int)) (hl:l.length≤200) (hs:LE l):B8 Tryz.prog 170 [.clo 203 [1],.fn 172] [(1,.box 86 false [.p CE l])] [] (fun res objs'=>res=.sr 7 Aq 0 l.length∧objs'=[(7,.arr 108 Aq l)]):=by
 refine CQ Tryz.func170 (by kernel_rfl) rfl Tryz.ntmps170 (by simp only[List.length_cons,List.length_nil];omega) (by kernel_rfl) rfl rfl (AG []) AJ ?_
 intro w0 K O0 ρ0 hc hok1 hok2
 simp only[BG]
 repeat'(first|exact trivial|refine eS rfl ?_|refine AB ?_|refine rX [0,1,4,5] hc ?_ ?_|refine rC ?_ ?_<;>intro AA<;>try(cases AA;done))
 refine cP 1 hc ?_ ?_
 ·trivial
 ·refine rM hc (eW l (by omega)) [(1,.nm 1)] [1] ?_ ?_ ?_
  ·first|exact eN|refine eM ?_
  ·first|exact eN|refine eM ?_
  ·rintro _ _ ⟨rfl,rfl⟩
   refine⟨[(1000000,.nm 7)],.sr 1000000 Aq 0 l.length,[(1000000,.arr 108 Aq l)],rfl,rfl,?_,?_,rfl,rfl,?_⟩
   ·first|exact eN|refine eM ?_
   ·first|exact eN|refine eM ?_
   ·refine GN [1,5] hc (by simp only[go_sem,Nat.reduceEqDiff,reduceCtorEq,Nat.reduceAdd,Nat.reduceSub,Nat.reduceMul,Nat.reduceLeDiff,Nat.reduceLT,Int.reduceLE,Int.reduceToNat,Int.reduceNeg,↓reduceIte];rfl) ?_ ?_
    ·trivial
    ·repeat'(first|exact trivial|refine eS rfl ?_|refine AB ?_|refine rX [0,1,4,5] hc ?_ ?_|refine rC ?_ ?_<;>intro AA<;>try(cases AA;done))
     refine cP 2 hc ?_ ?_
     ·trivial
     ·refine rM hc (aB l hl hs) [(1000000,.nm 1000000)] [] ?_ ?_ ?_
      ·first|exact eN|refine eM ?_
      ·first|exact eN|refine eM ?_
      ·rintro _ _ ⟨rfl,rfl⟩
       refine⟨[(1000000,.nm 1000000)],.raw (.tuple #[]),[(1000000,.arr 108 Aq l)],rfl,rfl,?_,?_,rfl,rfl,Dc ?_⟩
       ·first|exact eN|refine eM ?_
       ·first|exact eN|refine eM ?_
       ·repeat'(first|exact trivial|refine eS rfl ?_|refine AB ?_|refine rX [0,1,4,5] hc ?_ ?_|refine rC ?_ ?_<;>intro AA<;>try(cases AA;done))
        refine Ev.ent (σ':=⟨[(4,.sr 7 Aq 0 l.length)],[(7,.arr 108 Aq l)]⟩) ?_ (AC [(7,.nm 1000000)] rfl rfl ?_ ?_)
        ·exact BE hc [.tmp 4] rfl (.inl rfl) (.sr 7 Aq 0 l.length) eT ⟨rfl,rfl⟩
        ·first|exact eN|refine eM ?_
        ·first|exact eN|refine eM ?_
end
/- Functions of graph: canonical's search. -/
section
def KH (f:List AE) (o:List Int):List (Nat×Obj):=[(1,.box 40 false [.sr 5 T3 0 o.length]),(2,.box 228 false [.mp 6]),(3,.box 25 true [.p Fl f]),(4,.box 206 false [.clo 169 [1,2,3,4]]),(5,.arr 3 T3 o),(6,.mapo T3 T3 (tR o))]
theorem r8 (f:List AE) (hf:AY f) (hs:NK f):∀(k:Nat) (o:List Int) (n:Int),LF f o→0≤n→n<f.length→n∉o→f.length-o.length≤k →
  B8 Tryz.prog 169 [.p T3 n,.bp 1 [] 0,.bp 2 [] 0,.bp 3 [] 0,.bp 4 [] 0] (KH f o) [1,2,3,4,6] (fun res objs'=>res=.raw (.tuple #[])∧objs'=KH f (DT f k o n)):=by
 intro k
 induction k with
 | zero =>
  intro o n h0 h1 h2 h3 h4
  have:=(h0.snoc h1 h2 h3).len
  simp only[List.length_append,List.length_singleton]at this
  omega
 | succ k ih =>
  intro o n hd hn0 hn1 hno hk
  have hd1:=hd.snoc hn0 hn1 hno
  have hlen:=hd1.len
  simp only[List.length_append,List.length_singleton]at hlen
  have hfl:=hf.1
  refine CQ Tryz.func169 (by kernel_rfl) rfl Tryz.ntmps169 (by simp only[List.length_cons,List.length_nil];omega) (by kernel_rfl) rfl rfl (AG []) AJ ?_
  intro w0 K O0 ρ0 hc hok1 hok2
  simp only[KH,BG]
  repeat'(first|exact trivial|refine eS rfl ?_|refine AB ?_|refine rX [0,1,2,3,4,7,9,25,26,27,28,39] hc ?_ ?_|refine rC ?_ ?_<;>intro AA<;>try(cases AA;done))
  ·simp only[AP];omega
  ·rw[xK hno]
   obtain⟨hsrt,hl12⟩:=Xt hs n
   have harcs:=fun a (ha:a∈(f.getD n.toNat (0,[])).2)=>BC hf ha
   have hdfs:DT f (k+1) o n=(f.getD n.toNat (0,[])).2.foldl (Ab f k) (o++[n]):=CN f k o n
   refine cP 6 hc ?_ ?_
   ·exact⟨hn0,hn1⟩
   ·generalize (f.getD n.toNat (0,[])).2=L at *
    refine rM hc (WJ L) [] [] ?_ ?_ ?_
    ·first|exact eN|refine eM ?_
    ·first|exact eN|refine eM ?_
    ·rintro _ _ ⟨rfl,rfl⟩
     refine⟨[(50,.nm 1)],.clo 203 [50],[(50,.box 86 false [.p CE L])],rfl,rfl,?_,?_,rfl,rfl,?_⟩
     ·first|exact eN|refine eM ?_
     ·first|exact eN|refine eM ?_
     ·refine rM hc (Mi L hl12 hsrt) [(1,.nm 50)] [50] ?_ ?_ ?_
      ·first|exact eN|refine eM ?_
      ·first|exact eN|refine eM ?_
      ·rintro _ _ ⟨rfl,rfl⟩
       refine⟨[(51,.nm 7)],.sr 51 Aq 0 L.length,[(51,.arr 108 Aq L)],rfl,rfl,?_,?_,rfl,rfl,?_⟩
       ·first|exact eN|refine eM ?_
       ·first|exact eN|refine eM ?_
       ·refine GN [0,1,2,3,4,25,26,27] hc (by simp only[go_sem,Nat.reduceEqDiff,reduceCtorEq,Nat.reduceAdd,Nat.reduceSub,Nat.reduceMul,Nat.reduceLeDiff,Nat.reduceLT,Int.reduceLE,Int.reduceToNat,Int.reduceNeg,↓reduceIte];rfl) ?_ ?_
        ·trivial
        ·have hs1:∀i,LF f ((L.take i).foldl (Ab f k) (o++[n]))∧o++[n] <+: (L.take i).foldl (Ab f k) (o++[n]):=fun i=>EP (Dm hf k) _ _ (fun a ha=>harcs a (List.mem_of_mem_take ha)) hd1
         generalize ho1:o++[n]=o1 at *
         have hol:o1.length=o.length+1:=by rw[←ho1];simp
         rw[←hol]
         repeat'(first|exact trivial|refine eS rfl ?_|refine AB ?_|refine rX [0,1,2,3,4,7,9,25,26,27,28,39] hc ?_ ?_|refine rC ?_ ?_<;>intro AA<;>try(cases AA;done))
         refine AL (ι:={i:Nat//i≤L.length}) (fun i=>⟨[(0,.p T3 n),(1,.bp 1 [] 0),(2,.bp 2 [] 0),(3,.bp 3 [] 0),(4,.bp 4 [] 0),(25,.p CE L),(26,.p (.int .i64) (L.length:Int)),(27,.p (.int .i64) (i.1:Int))],KH f ((L.take i.1).foldl (Ab f k) o1)⟩) (fun i=>L.length-i.1) ⟨0,by omega⟩ (A4u [51] (AC [(1,.nm 1),(2,.nm 2),(3,.nm 3),(4,.nm 4),(5,.nm 5),(6,.nm 6)] rfl rfl ?_ ?_)) (fun i=>?_)
         ·simp only[KH,List.take_zero,List.foldl_nil]
          first|exact eN|refine eM ?_
         ·first|exact eN|refine eM ?_
         ·obtain⟨i,hi⟩:=i
          obtain⟨hdi,hpi⟩:=hs1 i
          have hnext:=fun(h:i<L.length)=>Pn (Ab f k) L (0,0) o1 h
          have hlei:=hpi.length_le
          generalize hoi:(L.take i).foldl (Ab f k) o1=oi at hdi hpi hnext hlei
          simp only[KH]
          repeat'(first|exact trivial|refine eS rfl ?_|refine AB ?_|refine rX [0,1,2,3,4,7,9,25,26,27,28,39] hc ?_ ?_|refine rC ?_ ?_<;>intro AA<;>try(cases AA;done))
          ·exact eV
          ·have hiL:i<L.length:=by exact eV
           have hr:=harcs _ (AD L (0,0) hiL)
           have hno2:(L.getD i (0,0)).2∉oi:=by rw[Tl]at AA;simpa using AA
           refine cP 3 hc ?_ ?_
           ·trivial
           ·refine rM hc (ih oi (L.getD i (0,0)).2 hdi hr.1 hr.2 hno2 (by omega)) [(1,.nm 1),(2,.nm 2),(3,.nm 3),(4,.nm 4),(5,.nm 5),(6,.nm 6)] [5] ?_ ?_ ?_
            ·first|exact eN|refine eM ?_
            ·simp only[KH]
             first|exact eN|refine eM ?_
            ·rintro _ _ ⟨rfl,rfl⟩
             refine⟨[(1,.nm 1),(2,.nm 2),(3,.nm 3),(4,.nm 4),(5,.nm 5),(6,.nm 6)],.raw (.tuple #[]),KH f (DT f k oi (L.getD i (0,0)).2),rfl,rfl,?_,?_,rfl,rfl,Dc ?_⟩
             ·simp only[KH]
              first|exact eN|refine eM ?_
             ·first|exact eN|refine eM ?_
             ·simp only[KH]
              repeat'(first|exact trivial|refine eS rfl ?_|refine AB ?_|refine rX [0,1,2,3,4,7,9,25,26,27,28,39] hc ?_ ?_|refine rC ?_ ?_<;>intro AA<;>try(cases AA;done))
              ·exact eV
              ·have e:Ab f k oi (L.getD i (0,0))=DT f k oi (L.getD i (0,0)).2:=if_neg hno2
               refine⟨⟨i+1,by omega⟩,by simp only;omega,AC [(1,.nm 1),(2,.nm 2),(3,.nm 3),(4,.nm 4),(5,.nm 5),(6,.nm 6)] rfl rfl ?_ ?_⟩
               ·simp only[hnext hiL,e]
                first|exact eN|refine eM ?_
               ·first|exact eN|refine eM ?_
          ·exact eV
          ·have hiL:i<L.length:=by exact eV
           have hno2:(L.getD i (0,0)).2∈oi:=by rw[Tl]at AA;simpa using AA
           have e:Ab f k oi (L.getD i (0,0))=oi:=if_pos hno2
           refine⟨⟨i+1,by omega⟩,by simp only;omega,AC [(1,.nm 1),(2,.nm 2),(3,.nm 3),(4,.nm 4),(5,.nm 5),(6,.nm 6)] rfl rfl ?_ ?_⟩
           ·simp only[hnext hiL,e]
            first|exact eN|refine eM ?_
           ·first|exact eN|refine eM ?_
          ·have hk:L.take i=L:=List.take_of_length_le (by exact eV)
           rw[hk]at hoi
           rw[hdfs,hoi]
           exact BE hc [] rfl (.inr rfl) (.raw (.tuple #[])) rfl ⟨rfl,rfl⟩
end
/- Functions of graph: canonical, Sub. -/
section
def Ce:Af:={ ins:=[Ds,T3],pre:=fun(f,n,_)=>AY f∧NK f∧0≤n∧n<(List.length f:Int),out:=fun(f,n,_)=>[.p Ds (AO f n)] }
attribute [local go_sem] Ce
theorem r9 {α β:Type} (g:α→β) (o:List α) (d:α) (z:β) {i:Nat} (h:i<o.length):((o.take i).map g++List.replicate (o.length-i) z).set i (g (o.getD i d))=(o.take (i+1)).map g++List.replicate (o.length-(i+1)) z:=by
 obtain⟨m,hm⟩:∃m,o.length-i=m+1:=⟨o.length-i-1,by omega⟩
 have hm2:o.length-(i+1)=m:=by omega
 have hl:((o.take i).map g).length=i:=by rw[List.length_map,List.length_take];omega
 rw[hm,hm2,List.set_append_right _ _ (by omega),hl,Nat.sub_self,List.replicate_succ,List.set_cons_zero,Ac o d h,List.map_append]
 simp
theorem Xw:Al Tryz.prog 124 Ce:=by
 refine AU Tryz.func124 (by kernel_rfl) rfl Tryz.ntmps124 (by decide) (by kernel_rfl) (AG []) AJ ?_
 rintro w0 O0 ⟨f,root,u⟩ hc-⟨hf,hs,hr0,hr1⟩
 simp only[Ce,AN]
 have hfl:=hf.1
 have hd0:LF f []:=⟨by simp,fun x hx=>by cases hx⟩
 obtain⟨hdo,hpo⟩:=Dm hf f.length [] root hd0 hr0 hr1 (by simp)
 have hcan:AO f root=(DT f f.length [] root).map (DU f (DT f f.length [] root)):=rfl
 rw[hcan]
 repeat'(first|exact trivial|refine eS rfl ?_|refine AB ?_|refine rX [0,1,2,4,5,6,7,8,9,10,11,12,22,23,24,25,38,39,40] hc ?_ ?_|refine rC ?_ ?_<;>intro AA<;>try(cases AA;done))
 refine cP 2 hc ?_ ?_
 ·trivial
 ·refine rM hc (r8 f hf hs (List.length f) [] root hd0 hr0 hr1 (by simp) (by simp)) [(1,.nm 6),(2,.nm 5),(3,.nm 2),(4,.nm 7),(5,.nil),(6,.nm 13)] [] ?_ ?_ ?_
  ·first|exact eN|refine eM ?_
  ·simp only[KH]
   first|exact eN|refine eM ?_
   rfl
  ·rintro _ _ ⟨rfl,rfl⟩
   refine⟨[(6,.nm 1),(5,.nm 2),(2,.nm 3),(7,.nm 4),(101,.nm 5),(13,.nm 6)],.raw (.tuple #[]),[(6,.box 40 false [.sr 101 T3 0 (DT f (List.length f) [] root).length]),(5,.box 228 false [.mp 13]),(2,.box 25 true [.p Fl f]),(7,.box 206 false [.clo 169 [6,5,2,7]]),(101,.arr 3 T3 (DT f (List.length f) [] root)),(13,.mapo T3 T3 (tR (DT f (List.length f) [] root)))],rfl,rfl,?_,?_,rfl,rfl,Dc ?_⟩
   ·simp only[KH]
    first|exact eN|refine eM ?_
   ·first|exact eN|refine eM ?_
   ·generalize DT f (List.length f) [] root=o at *
    have hol:=hdo.len
    repeat'(first|exact trivial|refine eS rfl ?_|refine AB ?_|refine rX [0,1,2,4,5,6,7,8,9,10,11,12,22,23,24,25,38,39,40] hc ?_ ?_|refine rC ?_ ?_<;>intro AA<;>try(cases AA;done))
    ·simp only[AP];omega
    ·refine AL (ι:={i:Nat//i≤o.length}) (fun i=>⟨[(2,.bp 2 [] 0),(4,.bp 4 [] 0),(5,.bp 5 [] 0),(8,.bp 8 [] 0),(22,.sr 101 T3 0 o.length),(23,.p (.int .i64) (o.length:Int)),(24,.p (.int .i64) (i.1:Int))],[(8,.box 25 true [.sr 20 J9 0 o.length]),(20,.arr 88 J9 ((o.take i.1).map (DU f o)++List.replicate (o.length-i.1) (0,[]))),(5,.box 228 false [.mp 13]),(2,.box 25 true [.p Fl f]),(101,.arr 3 T3 o),(13,.mapo T3 T3 (tR o)),(4,.box 25 true [.raw (.slice none 0 0)])]⟩) (fun i=>o.length-i.1) ⟨0,by omega⟩ (AC [(8,.nm 8),(20,.nm 20),(5,.nm 5),(2,.nm 2),(101,.nm 101),(13,.nm 13),(4,.nm 4)] rfl rfl ?_ ?_) (fun i=>?_)
     ·first|exact eN|refine eM ?_
     ·first|exact eN|refine eM ?_
     ·obtain⟨i,hi⟩:=i
      repeat'(first|exact trivial|refine eS rfl ?_|refine AB ?_|refine rX [0,1,2,4,5,6,7,8,9,10,11,12,22,23,24,25,38,39,40] hc ?_ ?_|refine rC ?_ ?_<;>intro AA<;>try(cases AA;done))
      ·exact eV
      ·have hio:i<o.length:=by exact eV
       have hn:=hdo.rng _ (AD o 0 hio)
       have hnode:DU f o (o.getD i 0)=((f.getD (o.getD i 0).toNat (0,[])).1,(f.getD (o.getD i 0).toNat (0,[])).2.map (I8 o)):=rfl
       obtain⟨hsrt,hl12⟩:=Xt hs (o.getD i 0)
       refine cP 6 hc ?_ ?_
       ·exact hn
       ·have hne:List.length f≤100000:=hfl
        generalize hnn:o.getD i 0=n at *
        generalize hfx:f.getD n.toNat (0,[])=x at *
        obtain⟨xt,L⟩:=x
        simp only at hsrt hl12 hnode
        refine rM hc (WJ L) [] [] ?_ ?_ ?_
        ·first|exact eN|refine eM ?_
        ·first|exact eN|refine eM ?_
        ·rintro _ _ ⟨rfl,rfl⟩
         refine⟨[(50,.nm 1)],.clo 203 [50],[(50,.box 86 false [.p CE L])],rfl,rfl,?_,?_,rfl,rfl,?_⟩
         ·first|exact eN|refine eM ?_
         ·first|exact eN|refine eM ?_
         ·refine rM hc (Mi L hl12 hsrt) [(1,.nm 50)] [50] ?_ ?_ ?_
          ·first|exact eN|refine eM ?_
          ·first|exact eN|refine eM ?_
          ·rintro _ _ ⟨rfl,rfl⟩
           refine⟨[(51,.nm 7)],.sr 51 Aq 0 L.length,[(51,.arr 108 Aq L)],rfl,rfl,?_,?_,rfl,rfl,?_⟩
           ·first|exact eN|refine eM ?_
           ·first|exact eN|refine eM ?_
           ·refine GN [2,4,5,8,9,10,11,22,23,24] hc (by simp only[go_sem,Nat.reduceEqDiff,reduceCtorEq,Nat.reduceAdd,Nat.reduceSub,Nat.reduceMul,Nat.reduceLeDiff,Nat.reduceLT,Int.reduceLE,Int.reduceToNat,Int.reduceNeg,↓reduceIte];rfl) ?_ ?_
            ·trivial
            ·repeat'(first|exact trivial|refine eS rfl ?_|refine AB ?_|refine rX [0,1,2,4,5,6,7,8,9,10,11,12,22,23,24,25,38,39,40] hc ?_ ?_|refine rC ?_ ?_<;>intro AA<;>try(cases AA;done))
             refine AL (ι:={k:Nat//k≤L.length}) (fun k=>⟨[(2,.bp 2 [] 0),(4,.bp 4 [] 0),(5,.bp 5 [] 0),(8,.bp 8 [] 0),(9,.p (.int .i64) (i:Int)),(10,.p T3 n),(11,.sr 51 Aq 0 L.length),(22,.sr 101 T3 0 o.length),(23,.p (.int .i64) (o.length:Int)),(24,.p (.int .i64) (i:Int)),(38,.p (.int .i64) (L.length:Int)),(39,.p (.int .i64) (k.1:Int))],[(51,.arr 108 Aq ((L.take k.1).map (I8 o)++L.drop k.1)),(8,.box 25 true [.sr 20 J9 0 o.length]),(20,.arr 88 J9 ((o.take i).map (DU f o)++List.replicate (o.length-i) (0,[]))),(5,.box 228 false [.mp 13]),(2,.box 25 true [.p Fl f]),(101,.arr 3 T3 o),(13,.mapo T3 T3 (tR o)),(4,.box 25 true [.raw (.slice none 0 0)])]⟩) (fun k=>L.length-k.1) ⟨0,by omega⟩ (AC [(51,.nm 51),(8,.nm 8),(20,.nm 20),(5,.nm 5),(2,.nm 2),(101,.nm 101),(13,.nm 13),(4,.nm 4)] rfl rfl ?_ ?_) (fun k=>?_)
             ·first|exact eN|refine eM ?_
             ·first|exact eN|refine eM ?_
             ·obtain⟨k,hk⟩:=k
              repeat'(first|exact trivial|refine eS rfl ?_|refine AB ?_|refine rX [0,1,2,4,5,6,7,8,9,10,11,12,22,23,24,25,38,39,40] hc ?_ ?_|refine rC ?_ ?_<;>intro AA<;>try(cases AA;done))
              ·exact eV
              ·exact eV
              ·have hkL:k<L.length:=by exact eV
               have e:=Th (I8 o) (fun b=>b) L (0,0) hkL (I8 o)
               refine⟨⟨k+1,by omega⟩,by simp only;omega,AC [(51,.nm 51),(8,.nm 8),(20,.nm 20),(5,.nm 5),(2,.nm 2),(101,.nm 101),(13,.nm 13),(4,.nm 4)] rfl rfl ?_ ?_⟩
               ·first|exact eN|refine eM ?_
                rw[e.2]
                rw[←e.1]
                unfold I8
                rw[←A26]
               ·first|exact eN|refine eM ?_
              ·exact⟨hn,by exact eV⟩
              ·exact eV
              ·have hkL:L.take k=L:=List.take_of_length_le (by exact eV)
               have hdL:L.drop k=[]:=List.drop_eq_nil_of_le (by exact eV)
               refine⟨⟨i+1,by omega⟩,by simp only;omega,AC [(8,.nm 8),(20,.nm 20),(5,.nm 5),(2,.nm 2),(101,.nm 101),(13,.nm 13),(4,.nm 4)] rfl rfl ?_ ?_⟩
               ·first|exact eN|refine eM ?_
                rw[hkL,hdL,List.append_nil]
                have e:=r9 (DU f o) o 0 (0,[]) hio
                rw[hnn,hnode]at e
                rw[←e,hfx,List.take_of_length_le (by simp:(L.map (I8 o)).length≤L.length)]
               ·first|exact eN|refine eM ?_
      ·have hk:o.take i=o:=List.take_of_length_le (by exact eV)
       have hz:o.length-i=0:=by exact eV
       rw[hk,hz]
       exact AH hc [.cell 4 25] rfl (.inl rfl) (by simp) (by simp only[List.replicate_zero,List.append_nil];first|exact eR|refine Aw ?_;exact List.take_of_length_le (by rw[List.length_map];exact eV))
def xN:Af:=Ce
theorem A3C:Al Tryz.prog 90 Ce:=by
 refine AU Tryz.func90 (by kernel_rfl) rfl Tryz.ntmps90 (by decide) (by kernel_rfl) (AG [(124,Ce)]) (AF Xw AJ) ?_
 rintro w0 O0 ⟨f,root,u⟩ hc-hp
 simp only[Ce,AN]
 repeat'(first|exact trivial|refine eS rfl ?_|refine AB ?_|refine rX [0,1,2,4] hc ?_ ?_|refine rC ?_ ?_<;>intro AA<;>try(cases AA;done))
 ·exact hp
 ·exact AH hc [.cell 4 25] rfl (.inl rfl) (by simp) (by first|exact eR|refine Aw ?_)
end
/- Functions of restrict: part, at its three closures. -/
section
attribute [local go_sem] xN Ce
def xO (acc:Int→Int×Int→Bool) (f:List AE) (i:Nat):AE:=((f.getD i (0,[])).1,(f.getD i (0,[])).2.filter (acc (i:Int)))
def Fu (acc:Int→Int×Int→Bool) (f:List AE) (i:Nat):List AE:=(List.range i).map (xO acc f)
def Tn (acc:Int→Int×Int→Bool) (f:List AE):List AE:=AO (Fu acc f f.length) 0
theorem I9 (acc:Int→Int×Int→Bool) (f:List AE) (i:Nat):(Fu acc f i).length=i:=by simp[Fu]
theorem JA (l:List (Int×Int)):LE l↔l.Pairwise (fun a b=>a.1<b.1):=by
 constructor
 ·intro h
  rw[List.pairwise_iff_getElem]
  have key:∀d i,i+d+1<l.length→(l.getD i (0,0)).1<(l.getD (i+d+1) (0,0)).1:=by
   intro d
   induction d with
   | zero=>intro i hi;exact h i hi
   | succ d ih =>
    intro i hi
    have h1:=ih i (by omega)
    have h2:=h (i+d+1) (by omega)
    have:i+(d+1)+1=i+d+1+1:=by omega
    rw[this]
    omega
  intro i j hi hj hij
  have h1:=key (j-i-1) i (by omega)
  rw[show i+(j-i-1)+1=j by omega]at h1
  simpa[List.getD_eq_getElem?_getD,hi,hj] using h1
 ·intro h i hi
  rw[List.pairwise_iff_getElem]at h
  have:=h i (i+1) (by omega) hi (by omega)
  simpa[List.getD_eq_getElem?_getD,hi,show i<l.length by omega] using this
theorem aC {l:List (Int×Int)} (h:LE l) (p:Int×Int→Bool):LE (l.filter p):=by
 rw[JA]at h ⊢
 exact h.sublist List.filter_sublist
theorem WK {f:List AE} (hf:AY f) (hs:NK f) (acc:Int→Int×Int→Bool):AY (Fu acc f f.length)∧NK (Fu acc f f.length):=by
 have hget:∀i,i<f.length→f.getD i (0,[])∈f:=fun i hi=>AD f (0,[]) hi
 refine⟨⟨by rw[I9];exact hf.1,fun x hx=>?_⟩,fun x hx=>?_⟩
 ·obtain⟨i,hi,rfl⟩:=List.mem_map.1 hx
  have hi:i<f.length:=List.mem_range.1 hi
  obtain⟨h1,h2⟩:=hf.2 _ (hget i hi)
  rw[I9]
  exact⟨Nat.le_trans (List.length_filter_le _ _) h1,fun a ha=>h2 a (List.mem_filter.1 ha).1⟩
 ·obtain⟨i,hi,rfl⟩:=List.mem_map.1 hx
  have hi:i<f.length:=List.mem_range.1 hi
  obtain⟨h1,h2⟩:=hs _ (hget i hi)
  exact⟨aC h1 _,Nat.le_trans (List.length_filter_le _ _) h2⟩
end
/- What a canonical feature structure is: its arcs ascend. -/
section
theorem JB {x y:Int} {xs ys:List Int} (h:Jp (x :: xs) (y :: ys)=0):x=y∧Jp xs ys=0:=by
 simp only[Jp]at h
 split at h
 ·cases h
 ·split at h
  ·cases h
  ·exact⟨by omega,h⟩
theorem Tp:∀ {l m:List (Int×Int)} {r s:List Int},l.length=m.length→Jp (l.flatMap (fun a=>[a.1,a.2])++r) (m.flatMap (fun a=>[a.1,a.2])++s)=0→l=m∧Jp r s=0
 | [],[],_,_,_,h=>⟨rfl,by simpa using h⟩
 | [],_ :: _,_,_,hl,_=>by simp at hl
 | _ :: _,[],_,_,hl,_=>by simp at hl
 | (a1,a2) :: l,(b1,b2) :: m,r,s,hl,h=>by
  have h:Jp (a1 :: a2 :: (l.flatMap (fun a=>[a.1,a.2])++r)) (b1 :: b2 :: (m.flatMap (fun a=>[a.1,a.2])++s))=0:=by simpa using h
  obtain⟨e1,h3⟩:=JB h
  obtain⟨e2,h4⟩:=JB h3
  obtain⟨e3,h5⟩:=Tp (l:=l) (m:=m) (by simpa using hl) h4
  exact⟨by rw[e1,e2,e3],h5⟩
theorem Tq:∀ {l m:List AE} {r s:List Int},l.length=m.length→Jp (l.flatMap Tc++r) (m.flatMap Tc++s)=0→l=m∧Jp r s=0
 | [],[],_,_,_,h=>⟨rfl,by simpa using h⟩
 | [],_ :: _,_,_,hl,_=>by simp at hl
 | _ :: _,[],_,_,hl,_=>by simp at hl
 | (a1,a2) :: l,(b1,b2) :: m,r,s,hl,h=>by
  have h:Jp (a1 :: (a2.length:Int) :: (a2.flatMap (fun a=>[a.1,a.2])++(l.flatMap Tc++r))) (b1 :: (b2.length:Int) :: (b2.flatMap (fun a=>[a.1,a.2])++(m.flatMap Tc++s)))=0:=by simpa[Tc] using h
  obtain⟨e1,h3⟩:=JB h
  obtain⟨e2,h4⟩:=JB h3
  obtain⟨e3,h5⟩:=Tp (l:=a2) (m:=b2) (by omega) h4
  obtain⟨e4,h6⟩:=Tq (l:=l) (m:=m) (by simpa using hl) h5
  exact⟨by rw[e1,e3,e4],h6⟩
theorem LK {a b:List AE} (h:Cv a b=0):a=b:=by
 unfold Cv Bd at h
 obtain⟨h1,h2⟩:=JB h
 have:=Tq (l:=a) (m:=b) (r:=[]) (s:=[]) (by omega) (by simpa using h2)
 exact this.1
theorem WL:∀l:List Int,Jp l l=0
 | []=>rfl
 | x :: l=>by simp[Jp,WL l]
theorem Mj (a:List AE):Cv a a=0:=WL _
/-! The sort ascends -/
theorem WM (x:Int×Int) (s:List (Int×Int)):∀n,(∀j,KK x s n≤j→j<n→x.1<(s.getD j (0,0)).1)∧(0<KK x s n→(s.getD (KK x s n-1) (0,0)).1≤x.1)
 | 0=>⟨fun j h1 h2=>by omega,fun h=>by simp[KK]at h⟩
 | n+1=>by
  obtain⟨h1,h2⟩:=WM x s n
  unfold KK
  split
  ·rename_i hc
   refine⟨fun j g1 g2=>?_,h2⟩
   by_cases e:j=n
   ·subst e;exact hc
   ·exact h1 j g1 (by omega)
  ·rename_i hc
   exact⟨fun j g1 g2=>by omega,fun _=>by simp only[Nat.add_sub_cancel];omega⟩
theorem A3D {l:List (Int×Int)} (h:l.Pairwise (fun a b=>a.1≤b.1)) {i j:Nat} (hij:i≤j) (hj:j<l.length):(l.getD i (0,0)).1≤(l.getD j (0,0)).1:=by
 rcases Nat.eq_or_lt_of_le hij with rfl|hlt
 ·exact Int.le_refl _
 ·rw[List.pairwise_iff_getElem]at h
  have:=h i j (by omega) hj hlt
  simpa[List.getD_eq_getElem?_getD,hj,show i<l.length by omega] using this
theorem aD {s:List (Int×Int)} (h:s.Pairwise (fun a b=>a.1≤b.1)) (x:Int×Int):(Pl s x).Pairwise (fun a b=>a.1≤b.1):=by
 obtain⟨h1,h2⟩:=WM x s s.length
 have hp:=Xp x s s.length
 unfold Pl
 generalize KK x s s.length=p at *
 rw[List.pairwise_append,List.pairwise_append]
 have hlow:∀a∈s.take p,a.1≤x.1:=fun a ha=>by
  obtain⟨i,hi,rfl⟩:=List.mem_iff_getElem.1 ha
  rw[List.length_take]at hi
  have h3:=A3D h (i:=i) (j:=p-1) (by omega) (by omega)
  have h4:=h2 (by omega)
  have e:(s.take p)[i].1=(s.getD i (0,0)).1:=by simp[List.getD_eq_getElem?_getD,show i<s.length by omega]
  rw[e]
  omega
 have hhigh:∀b∈s.drop p,x.1≤b.1:=fun b hb=>by
  obtain⟨i,hi,rfl⟩:=List.mem_iff_getElem.1 hb
  rw[List.length_drop]at hi
  have h3:=h1 (p+i) (by omega) (by omega)
  have e:(s.drop p)[i].1=(s.getD (p+i) (0,0)).1:=by simp[List.getD_eq_getElem?_getD,show p+i<s.length by omega]
  rw[e]
  omega
 refine⟨⟨h.sublist (List.take_sublist _ _),by simp,fun a ha b hb=>?_⟩,h.sublist (List.drop_sublist _ _),fun a ha b hb=>?_⟩
 ·have:b=x:=by simpa using hb
  rw[this]
  exact hlow a ha
 ·rcases List.mem_append.1 ha with ha|ha
  ·exact Int.le_trans (hlow a ha) (hhigh b hb)
  ·have:a=x:=by simpa using ha
   rw[this]
   exact hhigh b hb
theorem LL (l:List (Int×Int)):(Am l).Pairwise (fun a b=>a.1≤b.1):=by
 induction l using IZ with
 | h0=>exact List.Pairwise.nil
 | h1 l a ih=>rw[Jq];exact aD ih a
theorem Q1 {n:Int}:∀ {l seen:List (Int×Int)},Ol n seen l=0→(l.map (·.1)).Nodup∧∀a∈l,∀b∈seen,b.1≠a.1
 | [],_,_=>⟨by simp,fun a ha=>by cases ha⟩
 | x :: l,seen,h=>by
  simp only[Ol]at h
  split at h
  ·cases h
  ·split at h
   ·cases h
   ·rename_i h1 h2
    obtain⟨g1,g2⟩:=Q1 h
    have h2:∀b∈seen,b.1≠x.1:=fun b hb e=>h2 (List.any_eq_true.2 ⟨b,hb,by simp[e]⟩)
    refine⟨?_,fun a ha b hb=>?_⟩
    ·rw[List.map_cons,List.nodup_cons]
     refine⟨fun hm=>?_,g1⟩
     obtain⟨a,ha,e⟩:=List.mem_map.1 hm
     exact g2 a ha x (by simp) e.symm
    ·rcases List.mem_cons.1 ha with rfl|ha
     ·exact h2 b hb
     ·exact g2 a ha b (by simp[hb])
theorem Tr {m:Int}:∀ {f:List AE},KD m f=0→∀x∈f,I7 x.2 m=0
 | [],_,x,hx=>by cases hx
 | y :: f,h,x,hx=>by
  simp only[KD]at h
  split at h
  ·cases h
  ·split at h
   ·rename_i h1 h2;exact absurd h h2
   ·rename_i h1 h2
    rcases List.mem_cons.1 hx with rfl|hx
    ·exact Classical.byContradiction h2
    ·exact Tr h x hx
theorem sA {l:List (Int×Int)} (h:l.Pairwise (fun a b=>a.1≤b.1)) (hn:(l.map (·.1)).Nodup):l.Pairwise (fun a b=>a.1<b.1):=by
 rw[List.Nodup,List.pairwise_map]at hn
 refine(h.and hn).imp fun {a b} hab=>?_
 have h1:=hab.1
 have h2:¬a.1=b.1:=hab.2
 omega
theorem LM {f:List AE} (h:Dl f=true):AY f∧NK f∧0<f.length∧Gf f=true:=by
 unfold Dl at h
 simp only[Bool.and_eq_true,beq_iff_eq]at h
 obtain⟨⟨hl,_⟩,hc,he⟩:=h
 obtain⟨hl1,hl2⟩:=LD hl
 have hsa:Xq f:=fun x hx=>Nat.le_trans (hl2 x hx) (by omega)
 have hform:EO f=0:=by
  unfold CR at hc
  split at hc
  ·assumption
  ·exact hc
 obtain⟨hg,h0⟩:=NJ hform hsa
 have hcf:(CR f).1=Gl f 0:=by unfold CR;rw[if_pos hform]
 rw[hcf]at he
 have hfe:=LK he
 refine⟨hg,fun x hx=>⟨?_,Nat.le_trans (hl2 x hx) (by omega)⟩,h0,hl⟩
 rw[←hfe]at hx
 obtain⟨n,_,rfl⟩:=List.mem_map.1 hx
 rw[JA]
 have harcs:((f.getD n.toNat (0,[])).2.map (·.1)).Nodup:=by
  by_cases hlt:n.toNat<f.length
  ·have hm:f.getD n.toNat (0,[])∈f:=AD f (0,[]) hlt
   have hfg:KD f.length f=0:=by
    unfold EO at hform
    split at hform
    ·cases hform
    ·split at hform
     ·cases hform
     ·exact hform
   exact(Q1 (Tr hfg _ hm)).1
  ·rw[List.getD_eq_getElem?_getD,List.getElem?_eq_none (by omega)]
   simp
 have hst:=sA (LL (f.getD n.toNat (0,[])).2) (((Dk _).map (·.1)).nodup_iff.2 harcs)
 unfold LB
 simp only
 rw[List.pairwise_map]
 exact hst.imp fun hab=>hab
end
/- Plain: the breadth-first search of grammarlabref08.First. -/
section
open Go
end
/- Functions of path: Clone, firsts, First. -/
section
/-! The plain law -/
theorem getD_set_ne {α:Type} (l:List α) (d v:α) {i j:Nat} (h:i≠j):(l.set i v).getD j d=l.getD j d:=by
 simp only[List.getD_eq_getElem?_getD];rw[List.getElem?_set_ne h]
theorem Ia {α:Type} (l:List α) (d v:α) {i:Nat} (h:i<l.length):(l.set i v).getD i d=v:=by
 simp only[List.getD_eq_getElem?_getD];rw[List.getElem?_set_self h];rfl
end
/- Functions of path: firsts, First. -/
section
open Go
end
/- Functions of restrict: Depth. -/
section
attribute [local go_sem] xN Ce
end
/- Functions of restrict: Keep. -/
section
attribute [local go_sem] xN Ce
abbrev A7F:=List ((Int×Int)×Bool)
def cB (l:List (Int×Int)) (x:Int):Int:=l.foldl (fun t a=>if a.1=x then a.2 else t) (-1)
end
/- Functions of grammarlablaw15: exampleHolds. -/
section
attribute [local go_sem] Hc Z8
end
/- The plain laws under RestrictWhole: the first paths lead to their nodes and are shorter than the nodes are many; all nodes of a canonical feature structure are come to. -/
section
abbrev AR (f:List AE) (n:Int):List (Int×Int):=(f.getD n.toNat (0,[])).2
def Bn (f:List AE):Int→List Int→Option Int
 | n,[]=>some n
 | n,x :: r=>if cB (AR f n) x<0 then none else Bn f (cB (AR f n) x) r
theorem Ju (f:List AE):∀(p:List Int) (n m x:Int),Bn f n p=some m→Bn f n (p++[x])=if cB (AR f m) x<0 then none else some (cB (AR f m) x)
 | [],n,m,x,h=>by
  simp only[Bn,Option.some.injEq]at h
  subst h
  rfl
 | y :: p,n,m,x,h=>by
  simp only[Bn,List.cons_append]at h ⊢
  split at h
  ·cases h
  ·rename_i hc
   rw[if_neg hc]
   exact Ju f p _ m x h
theorem oK {l:List (Int×Int)} (h:l.Pairwise (fun a b=>a.1<b.1)) {a:Int×Int} (ha:a∈l):cB l a.1=a.2:=by
 have keep:∀(l:List (Int×Int)) (t:Int),(∀b∈l,¬b.1=a.1)→l.foldl (fun t b=>if b.1=a.1 then b.2 else t) t=t:=by
  intro l
  induction l with
  | nil=>intro t _;rfl
  | cons b l ih =>
   intro t hl
   rw[List.foldl_cons,if_neg (hl b (by simp))]
   exact ih t (fun c hc=>hl c (by simp[hc]))
 obtain⟨l1,l2,rfl⟩:=List.append_of_mem ha
 rw[List.pairwise_append,List.pairwise_cons]at h
 obtain⟨-,⟨h2,-⟩,-⟩:=h
 unfold cB
 rw[List.foldl_append,List.foldl_cons,if_pos rfl]
 exact keep l2 _ (fun b hb e=>by have:=h2 b hb;omega)
theorem Mk {f:List AE} (h:Dl f=true):AO f 0=f:=by
 obtain⟨hg,hs,h0,_⟩:=LM h
 unfold Dl at h
 simp only[Bool.and_eq_true,beq_iff_eq]at h
 obtain⟨_,hc,he⟩:=h
 have hcf:(CR f).1=Gl f 0:=by
  unfold CR at hc ⊢
  split at hc
  ·rename_i hh;rw[if_pos hh]
  ·rename_i hh;exact absurd hc hh
 rw[hcf]at he
 rw[←LI hg hs (by omega) (by omega)]
 exact LK he
/-! The parts -/
theorem eX {acc:Int→Int×Int→Bool} {f:List AE} (h:∀i,i<f.length→∀a∈(f.getD i (0,[])).2,acc (i:Int) a=true):Fu acc f f.length=f:=by
 apply List.ext_getElem
 ·exact I9 _ _ _
 ·intro i h1 h2
  have e:f.getD i (0,[])=f[i]:=by simp[List.getD_eq_getElem?_getD,h2]
  have:=h i h2
  simp only[Fu,List.getElem_map,List.getElem_range,xO]
  rw[List.filter_eq_self.2 this,e]
theorem eY {acc:Int→Int×Int→Bool} {f:List AE} (hc:Dl f=true) (h:∀i,i<f.length→∀a∈(f.getD i (0,[])).2,acc (i:Int) a=true):Tn acc f=f:=by
 unfold Tn
 rw[eX h]
 exact Mk hc
/-! Keep all paths -/
abbrev has (m:A7F) (k:Int×Int):Prop:=(FN A3v .bool k m).getD false=true
end
/- Plain: structures that differ in their nodes' names alone have one canonical form; a part of a part is a part. -/
section
theorem aE {f:List AE} (hf:AY f):∀(k:Nat) (o:List Int) (n:Int),LF f o→0≤n→n<f.length→n∉o→f.length-o.length≤k→DT f (k+1) o n=DT f k o n
 | 0,o,n,h,h0,h1,h2,hk=>by
  have:=(h.snoc h0 h1 h2).len
  simp only[List.length_append,List.length_singleton]at this
  omega
 | k+1,o,n,h,h0,h1,h2,hk=>by
  rw[CN,CN]
  have key:∀(l:List (Int×Int)) (t:List Int),(∀a∈l,0≤a.2∧a.2<(f.length:Int))→LF f t→f.length-t.length≤k→l.foldl (Ab f (k+1)) t=l.foldl (Ab f k) t:=by
   intro l
   induction l with
   | nil=>intros;rfl
   | cons a l ih =>
    intro t hl ht hlen
    have hq:=hl a (by simp)
    have hs:Ab f (k+1) t a=Ab f k t a:=by
     unfold Ab
     split
     ·rfl
     ·rename_i hn
      exact aE hf k t a.2 ht hq.1 hq.2 hn hlen
    have h3:LF f (Ab f k t a)∧t <+: Ab f k t a:=by
     unfold Ab
     split
     ·exact⟨ht,List.prefix_refl _⟩
     ·rename_i hn
      exact Dm hf k t a.2 ht hq.1 hq.2 hn
    rw[List.foldl_cons,List.foldl_cons,hs]
    have:=h3.2.length_le
    exact ih _ (fun b hb=>hl b (by simp[hb])) h3.1 (by omega)
  exact key _ _ (fun a ha=>BC hf ha) (h.snoc h0 h1 h2) (by simp only[List.length_append,List.length_singleton];omega)
theorem Gt (f:List AE):LF f []:=⟨by simp,fun x hx=>by cases hx⟩
theorem Ts {f:List AE} (hf:AY f) {n:Int} (h0:0≤n) (h1:n<f.length):∀m,DT f (f.length+m) [] n=DT f f.length [] n
 | 0=>rfl
 | m+1=>by
  rw[←Nat.add_assoc,aE hf _ [] n (Gt f) h0 h1 (by simp) (by simp only[List.length_nil];omega)]
  exact Ts hf h0 h1 m
structure Iso (Q R:List AE) (ψ:Int→Int) (C:Int→Prop):Prop where
 arc:∀i,C i→AR R (ψ i)=(AR Q i).map fun a=>(a.1,ψ a.2)
 cl:∀i,C i→∀a∈AR Q i,C a.2
 inj:∀i j,C i→C j→ψ i=ψ j→i=j
theorem Rs {Q R:List AE} {ψ:Int→Int} {C:Int→Prop} (h:Iso Q R ψ C):∀(k:Nat) (t:List Int) (i:Int),(∀x∈t,C x)→C i→DT R k (t.map ψ) (ψ i)=(DT Q k t i).map ψ∧∀x∈DT Q k t i,C x
 | 0,t,i,ht,hi=>⟨rfl,ht⟩
 | k+1,t,i,ht,hi=>by
  have key:∀(l:List (Int×Int)) (t:List Int),(∀a∈l,C a.2)→(∀x∈t,C x) →
    (l.map fun a=>(a.1,ψ a.2)).foldl (Ab R k) (t.map ψ)=(l.foldl (Ab Q k) t).map ψ∧∀x∈l.foldl (Ab Q k) t,C x:=by
   intro l
   induction l with
   | nil=>intro t _ ht;exact⟨rfl,ht⟩
   | cons a l ih =>
    intro t hl ht
    have ha:=hl a (by simp)
    have hs:Ab R k (t.map ψ) (a.1,ψ a.2)=(Ab Q k t a).map ψ∧∀x∈Ab Q k t a,C x:=by
     unfold Ab
     by_cases hm:a.2∈t
     ·rw[if_pos hm,if_pos (List.mem_map.2 ⟨_,hm,rfl⟩)]
      exact⟨rfl,ht⟩
     ·have hm2:¬ψ a.2∈t.map ψ:=by
       intro hh
       obtain⟨x,hx,e⟩:=List.mem_map.1 hh
       exact hm (h.inj x a.2 (ht x hx) ha e▸hx)
      rw[if_neg hm]
      simp only[if_neg hm2]
      exact Rs h k t a.2 ht ha
    rw[List.map_cons,List.foldl_cons,List.foldl_cons,hs.1]
    exact ih _ (fun b hb=>hl b (by simp[hb])) hs.2
  rw[CN,CN]
  have e:t.map ψ++[ψ i]=(t++[i]).map ψ:=by simp
  have ea:(R.getD (ψ i).toNat (0,[])).2=(AR Q i).map fun a=>(a.1,ψ a.2):=h.arc i hi
  rw[ea,e]
  refine key _ _ (h.cl i hi) fun x hx=>?_
  rcases List.mem_append.1 hx with hx|hx
  ·exact ht x hx
  ·have:x=i:=by simpa using hx
   rw[this];exact hi
theorem xP {o:List Int} {ψ:Int→Int} {x:Int} (h:∀y∈o,ψ y=ψ x→y=x):Be (o.map ψ) (ψ x)=Be o x:=by
 have hi:(o.map ψ).idxOf (ψ x)=o.idxOf x:=by
  induction o with
  | nil=>rfl
  | cons y o ih =>
   rw[List.map_cons,List.idxOf_cons,List.idxOf_cons]
   have hy:=h y (by simp)
   by_cases e:y=x
   ·subst e;simp
   ·have e2:¬ψ y=ψ x:=fun hh=>e (hy hh)
    have b1:(y==x)=false:=by simpa using e
    have b2:(ψ y==ψ x)=false:=by simpa using e2
    rw[b1,b2,ih (fun z hz=>h z (by simp[hz]))]
 unfold Be
 by_cases hm:x∈o
 ·rw[if_pos hm,if_pos (List.mem_map.2 ⟨x,hm,rfl⟩),hi]
 ·rw[if_neg hm,if_neg]
  intro hh
  obtain⟨y,hy,e⟩:=List.mem_map.1 hh
  exact hm (h y hy e▸hy)
theorem Ur {Q R:List AE} {ψ:Int→Int} {C:Int→Prop} (h:Iso Q R ψ C) (hQ:AY Q) (hC0:C 0) (h0:ψ 0=0) (hQ0:0<Q.length) (hlen:Q.length≤R.length)
  (hty:∀i,C i→(R.getD (ψ i).toNat (0,[])).1=(Q.getD i.toNat (0,[])).1):AO R 0=AO Q 0:=by
 have hd:DT R R.length [] 0=(DT Q Q.length [] 0).map ψ∧∀x∈DT Q Q.length [] 0,C x:=by
  have h1:=Rs h R.length [] 0 (fun x hx=>by cases hx) hC0
  rw[h0]at h1
  have h2:=Ts hQ (n:=0) (by omega) (by omega) (R.length-Q.length)
  rw[show Q.length+(R.length-Q.length)=R.length by omega]at h2
  rw[h2]at h1
  exact h1
 unfold AO
 rw[hd.1]
 generalize DT Q Q.length [] 0=o at *
 rw[List.map_map]
 refine List.map_congr_left fun i hi=>?_
 have hci:=hd.2 i hi
 show DU R (o.map ψ) (ψ i)=DU Q o i
 unfold DU
 have ea:(R.getD (ψ i).toNat (0,[])).2=(AR Q i).map fun a=>(a.1,ψ a.2):=h.arc i hci
 rw[hty i hci,ea,List.map_map]
 refine congrArg _ (List.map_congr_left fun a ha=>?_)
 show (a.1,Be (o.map ψ) (ψ a.2))=(a.1,Be o a.2)
 rw[xP fun y hy e=>h.inj y a.2 (hd.2 y hy) (h.cl i hci a ha) e]
/-! Nodes come to -/
structure Ord (f:List AE) (o:List Int):Prop where
 ok:LF f o
 zero:o.getD 0 0=0∧0<o.length
 cl:∀n∈o,∀a∈AR f n,a.2∈o
theorem xQ {f:List AE} (hf:AY f) (h0:0<f.length):[0] <+: DT f f.length [] 0:=by
 obtain⟨k,hk⟩:∃k,f.length=k+1:=⟨f.length-1,by omega⟩
 rw[hk,CN]
 exact(EP (Dm hf k) _ _ (fun a ha=>BC hf ha) ((Gt f).snoc (by omega) (by omega) (by simp))).2
theorem xR {f:List AE} (hf:AY f) (h0:0<f.length):Ord f (DT f f.length [] 0):=by
 have h1:=Dm hf f.length [] 0 (Gt f) (by omega) (by omega) (by simp)
 have h2:=Hd hf f.length [] 0 (Gt f) (by omega) (by omega) (by simp) (by simp)
 have h3:=xQ hf h0
 refine⟨h1.1,?_,fun n hn a ha=>?_⟩
 ·obtain⟨t,ht⟩:=h3
  rw[←ht]
  exact⟨rfl,by simp⟩
 ·rcases h2.2 n hn with h|h
  ·cases h
  ·exact h a ha
where
 getD_mem' {l:List Int} {d:Int} {k:Nat} (h:k<l.length):l.getD k d∈l:=by
  rw[List.getD_eq_getElem?_getD,List.getElem?_eq_getElem h]
  exact List.getElem_mem h
theorem GU {o:List Int} (hn:o.Nodup) {i:Nat} (hi:i<o.length):Be o (o.getD i 0)=(i:Int):=by
 have e:o.getD i 0=o[i]:=by rw[List.getD_eq_getElem?_getD,List.getElem?_eq_getElem hi];rfl
 rw[e]
 unfold Be
 rw[if_pos (List.getElem_mem hi),hn.idxOf_getElem i hi]
theorem Dt {o:List Int} {x:Int} (h:x∈o):0≤Be o x∧Be o x<(o.length:Int)∧o.getD (Be o x).toNat 0=x:=by
 unfold Be
 rw[if_pos h]
 have hl:=List.idxOf_lt_length_of_mem h
 refine⟨by omega,by omega,?_⟩
 rw[Int.toNat_natCast,List.getD_eq_getElem?_getD,List.getElem?_eq_getElem hl]
 show o[o.idxOf x]=x
 exact List.getElem_idxOf hl
theorem sB (f:List AE):(AO f 0).length=(DT f f.length [] 0).length:=by simp[AO]
theorem sC {f:List AE} {i:Nat} (hi:i<(DT f f.length [] 0).length):(AO f 0).getD i (0,[])=DU f (DT f f.length [] 0) ((DT f f.length [] 0).getD i 0):=by
 unfold AO
 simp[List.getD_eq_getElem?_getD,hi]
theorem aF (acc:Int→Int×Int→Bool) {f:List AE} {n:Int} (h0:0≤n) (h1:n<f.length):(Fu acc f f.length).getD n.toNat (0,[])=((f.getD n.toNat (0,[])).1,(AR f n).filter (acc n)):=by
 have hn:n.toNat<f.length:=by omega
 have e:((n.toNat:Nat):Int)=n:=by omega
 unfold Fu
 simp only[List.getD_eq_getElem?_getD,List.getElem?_map,List.getElem?_range hn,Option.map_some,Option.getD_some,xO]
 rw[e]
 rfl
end
/- Plain: what Keep keeps; Keep twice is Keep. -/
section
theorem A27 (l:List (Int×Int)) (x:Int):cB l x=-1∨∃a∈l,a.1=x∧a.2=cB l x:=by
 have key:∀(l:List (Int×Int)) (t:Int),l.foldl (fun t a=>if a.1=x then a.2 else t) t=t∨∃a∈l,a.1=x∧a.2=l.foldl (fun t a=>if a.1=x then a.2 else t) t:=by
  intro l
  induction l with
  | nil=>intro t;exact .inl rfl
  | cons b l ih =>
   intro t
   rw[List.foldl_cons]
   by_cases h:b.1=x
   ·rw[if_pos h]
    rcases ih b.2 with e|⟨a,ha,e⟩
    ·exact .inr ⟨b,by simp,h,e.symm⟩
    ·exact .inr ⟨a,by simp[ha],e⟩
   ·rw[if_neg h]
    rcases ih t with e|⟨a,ha,e⟩
    ·exact .inl e
    ·exact .inr ⟨a,by simp[ha],e⟩
 exact key l (-1)
theorem xS {l:List (Int×Int)} {x:Int} (h:0≤cB l x):∃a∈l,a.1=x∧a.2=cB l x:=by
 rcases A27 l x with e|h1
 ·omega
 ·exact h1
theorem sD {f:List AE} (hf:AY f) (hs:NK f) (h0:0<f.length) (acc:Int→Int×Int→Bool) {n:Int} (hn:n∈DT (Fu acc f f.length) f.length [] 0) :
  AR (Tn acc f) (Be (DT (Fu acc f f.length) f.length [] 0) n)=((AR f n).filter (acc n)).map (I8 (DT (Fu acc f f.length) f.length [] 0)):=by
 obtain⟨hPg,hPs⟩:=WK hf hs acc
 have hPl:=I9 acc f f.length
 have ho:=xR hPg (by omega)
 have hg:=fun i=>sC (f:=Fu acc f f.length) (i:=i)
 rw[hPl]at ho hg
 obtain⟨g0,g1,g2⟩:=Dt hn
 have hr:=ho.ok.rng n hn
 rw[hPl]at hr
 show ((Tn acc f).getD _ (0,[])).2=_
 have:Tn acc f=AO (Fu acc f f.length) 0:=rfl
 rw[this,hg _ (by omega),g2]
 unfold DU
 rw[aF acc hr.1 hr.2]
end
/- Plain: the first paths are shortest; Depth twice is the lesser Depth. -/
section
theorem Pr {f:List AE}:∀(p:List Int) (n:Int) (z:List Int),Bn f n p=none→Bn f n (p++z)=none
 | [],_,_,h=>by cases h
 | x :: p,n,z,h=>by
  simp only[Bn,List.cons_append]at h ⊢
  split
  ·rfl
  ·rename_i hc
   rw[if_neg hc]at h
   exact Pr p _ z h
theorem WN {f:List AE} {p:List Int} {e y:Int} (h:Bn f 0 (p++[e])=some y):∃x,Bn f 0 p=some x∧∃a∈AR f x,a.1=e∧a.2=y:=by
 cases hh:Bn f 0 p with
 | none=>rw[Pr p 0 [e] hh]at h;cases h
 | some x =>
  have hw:=Ju f p 0 x e hh
  rw[h]at hw
  split at hw
  ·cases hw
  ·rename_i hc
   obtain⟨a,ha,e1,e2⟩:=xS (l:=AR f x) (x:=e) (by omega)
   exact⟨x,rfl,a,ha,e1,by rw[e2];exact(Option.some.inj hw).symm⟩
end
/- Functions of subsume: target, Map, Subsumes. -/
section
attribute [local go_sem] Z3
def DI (l:List (Int×Int)) (e:Int):Int:=match l with
 | []=>-1
 | a :: l=>if a.1=e then a.2 else DI l e
theorem sE (e:Int) (l:List (Int×Int)) {k:Nat} (h:k<l.length):DI (l.drop k) e=if (l.getD k (0,0)).1=e then (l.getD k (0,0)).2 else DI (l.drop (k+1)) e:=by
 rw[List.drop_eq_getElem_cons h]
 have e:l.getD k (0,0)=l[k]:=by simp[List.getD_eq_getElem?_getD,h]
 rw[e]
 rfl
def Ot:Af:={ ins:=[J9,T3],pre:=fun _=>True,out:=fun(x,e,_)=>[.p T3 (DI x.2 e)],lend:=true }
attribute [local go_sem] Ot
theorem sF:Al Tryz.prog 126 Ot:=by
 refine AU Tryz.func126 (by kernel_rfl) rfl Tryz.ntmps126 (by decide) (by kernel_rfl) (AG []) AJ ?_
 rintro w0 O0 ⟨⟨ty,l⟩,e,u⟩ hc ⟨⟨-,hl,-⟩,-⟩ -
 simp only[AP]at hl
 simp only[Ot,AN]
 repeat'(first|exact trivial|refine eS rfl ?_|refine AB ?_|refine rX [0,1,2,4,6,8,9,10,11,17] hc ?_ ?_|refine rC ?_ ?_<;>intro AA<;>try(cases AA;done))
 refine AL (ι:={k:Nat//k≤l.length∧DI (l.drop k) e=DI l e}) (fun k=>⟨[(1,.p T3 e),(8,.p CE l),(9,.p (.int .i64) (l.length:Int)),(10,.p (.int .i64) (k.1:Int))],[]⟩) (fun k=>l.length-k.1) ⟨0,Nat.zero_le _,rfl⟩ (AC [] rfl rfl ?_ ?_) (fun k=>?_)
 ·first|exact eN|refine eM ?_
 ·first|exact eN|refine eM ?_
 ·obtain⟨k,hk,hf⟩:=k
  have hst:=fun h:k<l.length=>sE e l h
  simp only
  repeat'(first|exact trivial|refine eS rfl ?_|refine AB ?_|refine rX [0,1,2,4,6,8,9,10,11,17] hc ?_ ?_|refine rC ?_ ?_<;>intro AA<;>try(cases AA;done))
  ·exact AA
  ·have hk2:k<l.length:=by exact eV
   rw[hst hk2,if_pos AA]at hf
   exact AH hc [.tmp 4] rfl (.inl rfl) (by simp) (by rw[←hf];first|exact eR|refine Aw ?_)
  ·exact eV
  ·have hk2:k<l.length:=by exact eV
   rw[hst hk2,if_neg (by simpa using AA)]at hf
   refine⟨⟨k+1,hk2,hf⟩,by simp only;omega,AC [] rfl rfl ?_ ?_⟩
   ·first|exact eN|refine eM ?_
   ·first|exact eN|refine eM ?_
  ·have hk2:l.drop k=[]:=List.drop_eq_nil_of_le (by exact eV)
   rw[hk2]at hf
   exact AH hc [.tmp 4] rfl (.inl rfl) (by simp) (by rw[←hf];first|exact eR|refine Aw ?_;rfl)
end
/- Functions of subsume: Map, Subsumes. -/
section
attribute [local go_sem] Z3 Ot
def IC (n i:Nat):List Int:=(List.range n).map fun j=>if j<i then -1 else 0
theorem sG (n i:Nat):(IC n i).length=n:=by simp[IC]
theorem eZ (n:Nat):IC n 0=List.replicate n 0:=by
 apply List.ext_getElem
 ·simp[IC]
 ·intro j h1 h2
  simp[IC]
theorem sI (n i:Nat):(IC n i).set i (-1)=IC n (i+1):=by
 apply List.ext_getElem
 ·simp[IC]
 ·intro j h1 h2
  simp only[IC,List.getElem_set,List.getElem_map,List.getElem_range]
  split
  ·rename_i e;rw[if_pos (by omega)]
  ·rename_i e
   by_cases hj:j<i
   ·rw[if_pos hj,if_pos (by omega)]
   ·rw[if_neg hj,if_neg (by omega)]
theorem sJ (n:Nat):IC n n=List.replicate n (-1):=by
 apply List.ext_getElem
 ·simp[IC]
 ·intro j h1 h2
  simp only[IC,List.getElem_map,List.getElem_range,List.getElem_replicate]
  rw[if_pos (by simpa[IC] using h1)]
def LN (bl:List (Int×Int)) (m:List Int) (x:Int×Int):Bool:=decide (DI bl x.1<0)||decide (0≤m.getD x.2.toNat 0)&&!(m.getD x.2.toNat 0==DI bl x.1)
def Eb (bl:List (Int×Int)):List (Int×Int)→List Int→Option (List Int)
 | [],m=>some m
 | x :: l,m=>if LN bl m x=true then none else Eb bl l (m.set x.2.toNat (DI bl x.1))
def Gu (h:AM) (b:List AE) (n:AE) (k:Int):Bool:=decide (k<0)||!CH h n.1 (b.getD k.toNat (0,[])).1
def Ff (h:AM) (b:List AE):List AE→Nat→List Int→Option (List Int)
 | [],_,m=>some m
 | n :: r,i,m=>if Gu h b n (m.getD i 0)=true then none else match Eb (b.getD (m.getD i 0).toNat (0,[])).2 n.2 m with
  | none=>none
  | some m'=>Ff h b r (i+1) m'
def Xx (h:AM) (a b:List AE):Option (List Int):=Ff h b a 0 ((List.replicate a.length (-1)).set 0 0)
theorem Xy (bl l:List (Int×Int)) (m:List Int) {k:Nat} (h:k<l.length):Eb bl (l.drop k) m=if LN bl m (l.getD k (0,0))=true then none else Eb bl (l.drop (k+1)) (m.set (l.getD k (0,0)).2.toNat (DI bl (l.getD k (0,0)).1)):=by
 rw[List.drop_eq_getElem_cons h]
 have e:l.getD k (0,0)=l[k]:=by simp[List.getD_eq_getElem?_getD,h]
 rw[e]
 rfl
theorem Ib (h:AM) (b a:List AE) (m:List Int) {i:Nat} (hi:i<a.length):Ff h b (a.drop i) i m=if Gu h b (a.getD i (0,[])) (m.getD i 0)=true then none else match Eb (b.getD (m.getD i 0).toNat (0,[])).2 (a.getD i (0,[])).2 m with
  | none=>none
  | some m'=>Ff h b (a.drop (i+1)) (i+1) m':=by
 rw[List.drop_eq_getElem_cons hi]
 have e:a.getD i (0,[])=a[i]:=by simp[List.getD_eq_getElem?_getD,hi]
 rw[e]
 rfl
structure Xz (a b:List AE) (m:List Int):Prop where
 len:m.length=a.length
 rng:∀x∈m,x<(b.length:Int)
theorem X0 {n:Int} (hn:0≤n):∀ {l:List (Int×Int)} (e:Int),(∀x∈l,x.2<n)→DI l e<n
 | [],_,_=>by simp only[DI];omega
 | x :: l,e,h=>by
  simp only[DI]
  split
  ·exact h x (by simp)
  ·exact X0 hn e (fun y hy=>h y (by simp[hy]))
theorem Xz.set {a b:List AE} {m:List Int} (h:Xz a b m) (k:Nat) {v:Int} (hv:v<(b.length:Int)):Xz a b (m.set k v):=by
 refine⟨by simp[h.len],fun x hx=>?_⟩
 rcases List.mem_or_eq_of_mem_set hx with hx|hx
 ·exact h.rng x hx
 ·rw[hx];exact hv
theorem Xz.get {a b:List AE} {m:List Int} (h:Xz a b m) (hb:0<b.length) (k:Nat):m.getD k 0<(b.length:Int):=by
 rw[List.getD_eq_getElem?_getD]
 cases hh:m[k]? with
 | none=>show (0:Int)<_;omega
 | some x=>exact h.rng x (List.mem_of_getElem? hh)
def D7 (h:AM) (f:List AE):Prop:=∀x∈f,0≤x.1∧x.1<(h.1.length:Int)
theorem GV {f:List AE} (hf:AY f) (k:Nat):∀x∈(f.getD k (0,[])).2,0≤x.2∧x.2<(f.length:Int):=by
 intro x hx
 by_cases h:k<f.length
 ·exact(hf.2 _ (AD f (0,[]) h)).2 x hx
 ·rw[List.getD_eq_getElem?_getD,List.getElem?_eq_none (by omega)]at hx
  cases hx
def A28:Af:={ ins:=[GD,Ds,Ds],pre:=fun(h,a,b,_)=>AY a∧0<List.length a∧AY b∧0<List.length b∧D7 h a∧D7 h b,out:=fun(h,a,b,_)=>[.p Ek ((Xx h a b).getD []),.p .bool (Xx h a b).isSome] }
attribute [local go_sem] A28
theorem A3F:Al Tryz.prog 91 A28:=by
 refine AU Tryz.func91 (by kernel_rfl) rfl Tryz.ntmps91 (by decide) (by kernel_rfl) (AG [(125,Z3),(126,Ot)]) (AF A1Z (AF sF AJ)) ?_
 rintro w0 O0 ⟨⟨ht,hf⟩,a,b,u⟩ hc-⟨hga,ha0,hgb,hb0,hta,htb⟩
 have hal:=hga.1
 simp only[A28,AN]
 repeat'(first|exact trivial|refine eS rfl ?_|refine AB ?_|refine rX [0,1,2,3,4,5,6,7,8,9,10,11,12,13,15,16,22,23,24,33,34,35,36,58,60,61,62,63,92,101] hc ?_ ?_|refine rC ?_ ?_<;>intro AA<;>try(cases AA;done))
 refine Ev.ent (σ':=⟨[(3,.bp 3 [] 0),(4,.bp 4 [] 0),(5,.bp 5 [] 0)],[(3,.box 29 true [.p YW ht,.p ZP hf]),(4,.box 25 true [.p Fl a]),(5,.box 25 true [.p Fl b])]⟩) ?_ (AC [(3,.nm 3),(4,.nm 4),(5,.nm 5)] rfl rfl ?_ ?_)
 ·refine vP vR ?_
  repeat'(first|exact trivial|refine eS rfl ?_|refine AB ?_|refine rX [0,1,2,3,4,5,6,7,8,9,10,11,12,13,15,16,22,23,24,33,34,35,36,58,60,61,62,63,92,101] hc ?_ ?_|refine rC ?_ ?_<;>intro AA<;>try(cases AA;done))
  ·simp only[AP];omega
  ·refine AL (ι:={i:Nat//i≤a.length}) (fun i=>⟨[(3,.bp 3 [] 0),(4,.bp 4 [] 0),(5,.bp 5 [] 0),(8,.sr 20 T3 0 a.length),(22,.p (.int .i64) (a.length:Int)),(23,.p (.int .i64) (i.1:Int))],[(3,.box 29 true [.p YW ht,.p ZP hf]),(4,.box 25 true [.p Fl a]),(5,.box 25 true [.p Fl b]),(20,.arr 3 T3 (IC a.length i.1))]⟩) (fun i=>a.length-i.1) ⟨0,Nat.zero_le _⟩ (AC [(3,.nm 3),(4,.nm 4),(5,.nm 5),(20,.nm 20)] rfl rfl ?_ ?_) (fun i=>?_)
   ·first|exact eN|refine eM ?_
    rw[eZ]
   ·first|exact eN|refine eM ?_
   ·obtain⟨i,hi⟩:=i
    have hfl:=sG a.length i
    simp only
    repeat'(first|exact trivial|refine eS rfl ?_|refine AB ?_|refine rX [0,1,2,3,4,5,6,7,8,9,10,11,12,13,15,16,22,23,24,33,34,35,36,58,60,61,62,63,92,101] hc ?_ ?_|refine rC ?_ ?_<;>intro AA<;>try(cases AA;done))
    ·exact AA
    ·omega
    ·have hi2:i<a.length:=Int.ofNat_lt.1 AA
     refine⟨⟨i+1,hi2⟩,by simp only;omega,AC [(3,.nm 3),(4,.nm 4),(5,.nm 5),(20,.nm 20)] rfl rfl ?_ ?_⟩
     ·simp only[←sI]
      first|exact eN|refine eM ?_
     ·first|exact eN|refine eM ?_
    ·exact Int.ofNat_lt.2 ha0
    ·have hi2:i=a.length:=by omega
     subst hi2
     rw[sJ]
     have hm0:Xz a b ((List.replicate a.length (-1)).set 0 0):=Xz.set ⟨by simp,fun x hx=>by rw[(List.mem_replicate.1 hx).2];omega⟩ 0 (by omega)
     have hmf:Xx (ht,hf) a b=Ff (ht,hf) b (a.drop 0) 0 ((List.replicate a.length (-1)).set 0 0):=rfl
     generalize (List.replicate a.length (-1:Int)).set 0 0=m0 at *
     refine vQ ?_
     repeat'(first|exact trivial|refine eS rfl ?_|refine AB ?_|refine rX [0,1,2,3,4,5,6,7,8,9,10,11,12,13,15,16,22,23,24,33,34,35,36,58,60,61,62,63,92,101] hc ?_ ?_|refine rC ?_ ?_<;>intro AA<;>try(cases AA;done))
     refine AL (ι:={x:Nat×List Int//x.1≤a.length∧Xz a b x.2∧Ff (ht,hf) b (a.drop x.1) x.1 x.2=Xx (ht,hf) a b}) (fun x=>⟨[(3,.bp 3 [] 0),(5,.bp 5 [] 0),(8,.sr 20 T3 0 a.length),(10,.p .bool true),(33,.p Fl a),(34,.p (.int .i64) (a.length:Int)),(35,.p (.int .i64) (x.1.1:Int))],[(3,.box 29 true [.p YW ht,.p ZP hf]),(5,.box 25 true [.p Fl b]),(20,.arr 3 T3 x.1.2)]⟩) (fun x=>a.length-x.1.1) ⟨(0,m0),Nat.zero_le _,hm0,hmf.symm⟩ (AC [(3,.nm 3),(5,.nm 5),(20,.nm 20)] rfl rfl ?_ ?_) (fun x=>?_)
     ·first|exact eN|refine eM ?_
     ·first|exact eN|refine eM ?_
     ·obtain⟨⟨i,m⟩,hi,hmI,hmn⟩:=x
      simp only at hi hmI hmn
      have hml:=hmI.len
      have hst:=fun h:i<a.length=>Ib (ht,hf) b a m h
      simp only
      repeat'(first|exact trivial|refine eS rfl ?_|refine AB ?_|refine rX [0,1,2,3,4,5,6,7,8,9,10,11,12,13,15,16,22,23,24,33,34,35,36,58,60,61,62,63,92,101] hc ?_ ?_|refine rC ?_ ?_<;>intro AA<;>try(cases AA;done))
      ·exact AA
      ·exact AA
      ·have hi2:i<a.length:=Int.ofNat_lt.1 AA
       have hk:=hmI.get hb0 i
       refine⟨fun h=>⟨by simpa using h,hk⟩,fun h=>⟨hta _ (AD a (0,[]) hi2),htb _ (AD b (0,[]) ?_)⟩⟩
       have:(0:Int)≤m.getD i 0:=by simpa using h
       omega
      ·have hi2:i<a.length:=Int.ofNat_lt.1 (by assumption)
       have hbad:Gu (ht,hf) b (a.getD i (0,[])) (m.getD i 0)=true:=by
        unfold Gu
        rw[Bool.or_eq_true,decide_eq_true_eq,Bool.not_eq_true']
        assumption
       rw[hst hi2,if_pos hbad]at hmn
       exact AH hc [.tmp 6,.tmp 7] rfl (.inl rfl) (by simp) (by rw[←hmn];first|exact eR|refine Aw ?_;first|rfl|exact⟨rfl,rfl⟩)
      ·have hi2:i<a.length:=Int.ofNat_lt.1 (by assumption)
       have hbad:¬Gu (ht,hf) b (a.getD i (0,[])) (m.getD i 0)=true:=by
        unfold Gu
        rw[Bool.or_eq_true,decide_eq_true_eq,Bool.not_eq_true']
        rintro (h|h)
        ·have:=AA.1;omega
        ·rw[show CH (ht,hf) (a.getD i (0,[])).1 (b.getD (m.getD i 0).toNat (0,[])).1=true from AA.2]at h
         cases h
       rw[hst hi2,if_neg hbad]at hmn
       have hk0:(0:Int)≤m.getD i 0:=AA.1
       have hk1:=hmI.get hb0 i
       have hal2:(a.getD i (0,[])).2.length≤100000:=(hga.2 _ (AD a (0,[]) hi2)).1
       have hrng:=GV hga i
       have hbl:=GV hgb (m.getD i 0).toNat
       have hkb:((m.getD i 0).toNat:Int)=m.getD i 0:=by omega
       generalize hkd:m.getD i 0=kk at *
       have hbe:(b.getD kk.toNat (0,[])).2=(b.getD kk.toNat (0,[])).2:=rfl
       generalize hble:(b.getD kk.toNat (0,[])).2=bl at hmn hbl
       generalize hae:(a.getD i (0,[])).2=l at hmn hal2 hrng
       refine AL (ι:={y:Nat×List Int//y.1≤l.length∧Xz a b y.2∧Eb bl (l.drop y.1) y.2=Eb bl l m}) (fun y=>⟨[(3,.bp 3 [] 0),(5,.bp 5 [] 0),(8,.sr 20 T3 0 a.length),(10,.p .bool true),(13,.p T3 kk),(33,.p Fl a),(34,.p (.int .i64) (a.length:Int)),(35,.p (.int .i64) (i:Int)),(60,.p CE l),(61,.p (.int .i64) (l.length:Int)),(62,.p (.int .i64) (y.1.1:Int))],[(3,.box 29 true [.p YW ht,.p ZP hf]),(5,.box 25 true [.p Fl b]),(20,.arr 3 T3 y.1.2)]⟩) (fun y=>l.length-y.1.1) ⟨(0,m),Nat.zero_le _,hmI,rfl⟩ (AC [(3,.nm 3),(5,.nm 5),(20,.nm 20)] rfl rfl ?_ ?_) (fun y=>?_)
       ·first|exact eN|refine eM ?_
       ·first|exact eN|refine eM ?_
       ·obtain⟨⟨j,m2⟩,hj,hmI2,hma⟩:=y
        simp only at hj hmI2 hma
        have hml2:=hmI2.len
        have hst2:=fun h:j<l.length=>Xy bl l m2 h
        have hx:=fun h:j<l.length=>hrng _ (AD l (0,0) h)
        have htl:DI bl (l.getD j (0,0)).1<(b.length:Int):=X0 (Int.natCast_nonneg _) _ fun x hx=>(hbl x hx).2
        have hmb:LN bl m2 (l.getD j (0,0))=(decide (DI bl (l.getD j (0,0)).1<0)||decide (0≤m2.getD (l.getD j (0,0)).2.toNat 0)&&!(m2.getD (l.getD j (0,0)).2.toNat 0==DI bl (l.getD j (0,0)).1)):=rfl
        rw[←hble]at hst2 hmb hma htl
        simp only
        repeat'(first|exact trivial|refine eS rfl ?_|refine AB ?_|refine rX [0,1,2,3,4,5,6,7,8,9,10,11,12,13,15,16,22,23,24,33,34,35,36,58,60,61,62,63,92,101] hc ?_ ?_|refine rC ?_ ?_<;>intro AA<;>try(cases AA;done))
        ·exact AA
        ·exact⟨hk0,hk1⟩
        ·have hj2:j<l.length:=Int.ofNat_lt.1 AA
         exact⟨fun _=>hx hj2,fun _=>hx hj2⟩
        ·have hj2:j<l.length:=Int.ofNat_lt.1 (by assumption)
         have hbad2:LN (b.getD kk.toNat (0,[])).2 m2 (l.getD j (0,0))=true:=by
          rw[hmb,Bool.or_eq_true,Bool.and_eq_true,decide_eq_true_eq,decide_eq_true_eq,Bool.not_eq_true',beq_eq_false_iff_ne]
          assumption
         rw[hst2 hj2,if_pos hbad2]at hma
         rw[hble]at hma
         rw[←hma]at hmn
         have hmn:none=Xx (ht,hf) a b:=hmn
         exact AH hc [.tmp 6,.tmp 7] rfl (.inl rfl) (by simp) (by rw[←hmn];first|exact eR|refine Aw ?_;first|rfl|exact⟨rfl,rfl⟩)
        ·have hj2:j<l.length:=Int.ofNat_lt.1 (by assumption)
         exact hx hj2
        ·omega
        ·have hj2:j<l.length:=Int.ofNat_lt.1 (by assumption)
         have hbad2:¬LN (b.getD kk.toNat (0,[])).2 m2 (l.getD j (0,0))=true:=by
          rw[hmb,Bool.or_eq_true,Bool.and_eq_true,decide_eq_true_eq,decide_eq_true_eq,Bool.not_eq_true',beq_eq_false_iff_ne]
          rintro (h|⟨h1,h2⟩)
          ·exact absurd AA.1 (Int.not_le.2 h)
          ·have:=AA.2 h1
           rw[bne_eq_false_iff_eq]at this
           exact h2 this
         rw[hst2 hj2,if_neg hbad2]at hma
         refine⟨⟨(j+1,m2.set (l.getD j (0,0)).2.toNat (DI (b.getD kk.toNat (0,[])).2 (l.getD j (0,0)).1)),hj2,hmI2.set _ htl,by rw[hble]at hma ⊢;exact hma⟩,by simp only;omega,AC [(3,.nm 3),(5,.nm 5),(20,.nm 20)] rfl rfl ?_ ?_⟩
         ·first|exact eN|refine eM ?_
         ·first|exact eN|refine eM ?_
        ·omega
        ·have hj2:j=l.length:=by omega
         subst hj2
         rw[List.drop_length]at hma
         have hma:some m2=Eb bl l m:=by rw[←hble];exact hma
         rw[←hma]at hmn
         refine⟨⟨(i+1,m2),hi2,hmI2,hmn⟩,by simp only;omega,AC [(3,.nm 3),(5,.nm 5),(20,.nm 20)] rfl rfl ?_ ?_⟩
         ·first|exact eN|refine eM ?_
         ·first|exact eN|refine eM ?_
      ·have hi2:i=a.length:=by exact eV
       subst hi2
       rw[List.drop_length]at hmn
       have hmn:some m=Xx (ht,hf) a b:=hmn
       refine Gr [20] ?_
       exact AH hc [.tmp 6,.tmp 7] rfl (.inl rfl) (by simp) (by rw[←hmn];first|exact eR|refine Aw ?_;exact List.take_of_length_le (by rw[hml];exact Nat.le_refl _))
 ·first|exact eN|refine eM ?_
 ·first|exact eN|refine eM ?_
def KI (h:AM) (a b:List AE):Bool:=(Xx h a b).isSome
def oL:Af:={ ins:=[GD,Ds,Ds],pre:=fun(h,a,b,_)=>AY a∧0<List.length a∧AY b∧0<List.length b∧D7 h a∧D7 h b,out:=fun(h,a,b,_)=>[.p .bool (KI h a b)],lend:=true }
theorem A29:Al Tryz.prog 48 oL:=by
 refine AU Tryz.func48 (by kernel_rfl) rfl Tryz.ntmps48 (by decide) (by kernel_rfl) (AG [(91,A28)]) (AF A3F AJ) ?_
 rintro w0 O0 ⟨⟨ht,hf⟩,a,b,u⟩ hc-hp
 simp only[oL,AN]
 repeat'(first|exact trivial|refine eS rfl ?_|refine AB ?_|refine rX [0,1,2,3,4,5,6,8] hc ?_ ?_|refine rC ?_ ?_<;>intro AA<;>try(cases AA;done))
 ·exact hp
 ·exact AH hc [.tmp 6] rfl (.inl rfl) (by simp) (by unfold KI;first|exact eR|refine Aw ?_)
end
end Go.Proofs.YtebfihindnhccaaGreat.Fw
