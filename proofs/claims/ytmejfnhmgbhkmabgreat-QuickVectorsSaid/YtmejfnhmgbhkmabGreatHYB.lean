/- Contracts of the program's and the reference's functions, and the plain laws of what they compute: C31 C32 C33 C34 C35 D1 D4 N6 R07a R07b R07c R07d R07e Sorted R07f R07g R07h R15c P8 G1 G3 G2 G4 G5 G6 P1 P9 R08a P3 P4 P5 P2 P7 W1 W2 W3 W4 D2 D3 W5 U1 U2. -/
/- Functions of grammarlabref05: Features. -/
import Derived.Test.YtmejfnhmgbhkmabGreatHYA
import Derived.Test.YtmejfnhmgbhkmabGreatHZJ
import Derived.Test.YtmejfnhmgbhkmabGreatHZI
set_option linter.unusedVariables false
set_option linter.unusedSimpArgs false
namespace Go.Proofs.YtmejfnhmgbhkmabGreat.Fw
open Go
attribute [local irreducible] Ev
attribute [local go_sem] YO AM List.toList_toArray Bk evG evK UG EF I9 F6 FG Hk QD Lu Ci Cp K8 CC Cd frz aV F1 Co Az E7 BL AV.frz AV.frzs AV.drp AV.drps AV.names AV.namess aq F3 Jg I1 Qx H5 BM BV IV Dr Hd Ds Hf He Hg Rm NG GL I2 E9 Dl Rn Ox qG IW Hh J5 Eo Dt Qy Cs Du EX Oy Hi Oz J6 H8 I3 Dv DD GU DF Gp Ct EY Cu Dw FB CC CP P0 Ow MO Fy H7 H6 J3 NJ QB Lt KA J8 I6 QC J9 I7 WU NL NK AV.trn AV.trns ER Cg Obj.trn Ik Yi DE Dy Dm Dx CG EZ Aq lk GX F2 Gl wL aU UH aX QA mF mG wP AV.cells Bz IT NF I5 NI B7 Lr Ty.cell1 Hc ET DC FU MN Em I0 J1 Ou F0 Fa Lo Qv Rk Jz H4 WR X0 P6 Ls Cc IU RV.flat Ty.flat Ty.size St.add upd UF BR Value.oneCell' Jv Ty.dflt Hb Nf Gy Np List.take_succ_cons List.take_zero List.length_cons YX YY Nn Ih KP Gj Ii rI FH LH LI LJ LK PB PC LL Hn R4 Option.map_some Option.map_none Option.bind_some Option.getD_some Option.getD_none Option.isNone_none Option.isNone_some Bool.and_true Bool.true_and Bool.and_false Bool.false_and Bool.not_true Bool.not_false if_true if_false List.length_cons List.length_nil and_true true_and and_self List.all_cons List.all_nil List.append_nil List.nil_append List.cons_append List.getElem?_cons_zero List.getElem?_cons_succ List.getElem?_nil List.map_cons List.map_nil List.set_cons_zero List.set_cons_succ List.isEmpty_nil List.isEmpty_cons decide_true decide_false beq_self_eq_true bne_self_eq_false Nat.zero_add Nat.add_zero Nat.sub_zero Int.toNat_natCast Int.toNat_zero Int.toNat_one List.take_length List.length_append List.length_singleton true_or or_true or_self false_or or_false Ty.agg.injEq Ty.slice.injEq Ty.prod.injEq Ty.int.injEq Option.some.injEq beq_iff_eq Jw evMG evMQ rO G0 KM Bo Ig GM Nh Id Gz Ho JF Jl MZ L0 Ma RA KN Ni Nj Ie AW Ah Op.operands Call.operands List.filterMap_cons List.filterMap_nil List.append_eq Bool.cond_false_right Bool.cond_true_left cond_true cond_false implies_true decide_eq_true_eq beq_true beq_false Bool.or_true Bool.or_false Bool.true_or Bool.false_or Option.isSome_some E8 K9 Ea Gm WT NH FA Fc Fb Hj Gn I4 J7 UI aW UY inB I8 FC Fz IX BU YZ List.drop_zero DK G7 Wr B1 JK Bi AV.fgt AV.fgts Obj.fgt Ak Ag AW Cl Ha BA F7 List.any_cons List.any_nil bV Yc Ws Yd KR PH qs List.flatMap_cons List.flatMap_nil List.cons_append tn Wv Il List.take_succ_cons List.drop_succ_cons Wz HA Bg fU LQ Bv B9 Ab FF JE BX Ec DI Gw Hm Fg Gx
attribute [local go_sem] ty1 ty2 ty3 ty4 ty5 ty9 xY xZ x4 x5 x6 x7 x8 x9 yA yB yC yD yE yF yG yH yI yJ yK yL yM yN yO yP yQ yR yS yT yU yV yW yX yY yZ y3 y4 y5 y6 y7 y8 y9 zA zB zC zD zE zF zG zH zI zJ zK zL zM zN zO zP zQ zR zS zT zU zV zW zX zY zZ z0 z1 z2 z3 z4 z5 z6 z7 z8 fY fZ f6 f7 gB gC gD gE gF gG gH gI gJ gK gL gM gN gP gQ gR gS gT gU gV gW gX gY gZ hC hD hH hZ iA iB iC iD iE iG iH iI iJ iK iL iM iO iP iQ iR iT iU iV iW iX iY iZ i4 i5 i6 i7 i8 i9 jA jB jC jD jE jF jG jH jI jJ jK jL jM jN jO jP jQ jR jS jT jU jV jW jX jY jZ j3 j4 j5 j6 j7 j8 j9 kA kB kC kD kE kF kG kH kI kJ kK kL kM kN kO kP kQ
set_option maxRecDepth 100000
set_option maxHeartbeats 4000000
section
attribute [local go_sem] La IM Kg Pa LV
abbrev tV:=ByteArray×Int
theorem CK {d:List AJ} (h:BH d=0):(Bt d).2=0∧(DP d).length≤64∧Kk d=0:=by
 unfold BH at h
 split at h
 ·rename_i h1;exact absurd h h1
 ·rename_i h1
  split at h
  ·cases h
  ·rename_i h2
   split at h
   ·rename_i h3;exact absurd h h3
   ·rename_i h3
    exact⟨Classical.byContradiction h1,by omega,Classical.byContradiction h3⟩
def S5 (d:List AJ) (s:ByteArray):tV:=(s,Cv (Ax d) (Fm d s).1)
def EM (d:List AJ):List tV×Int:=if BH d≠0 then ([],BH d) else ((DP d).map (S5 d),0)
theorem Ef {α β:Type} (f:α→β) (l:List α) (d:α) {k:Nat} (h:k<l.length):(l.take (k+1)).map f=(l.take k).map f++[f (l.getD k d)]:=by
 rw[Ae l d h,List.map_append]
 rfl
theorem XT {α β:Type} (f:α→β) (l:List α) {k:Nat} (h:k≤l.length):((l.take k).map f).length=k:=by simp[h]
def Lb:Ac:={ ins:=[EK],pre:=fun _=>True,out:=fun(d,_)=>[.p Yq (EM d).1,.p Yp (EM d).2] }
theorem ZU:Ai Tryz.prog 61 Lb:=by
 refine AP Tryz.func61 (by kernel_rfl) rfl Tryz.ntmps61 (by decide) (by kernel_rfl) (AH [(84,La),(59,IM),(85,Kg),(95,Pa),(96,LV)]) (AE VX (AE OJ (AE Sn (AE ZP (AE VN AI))))) ?_
 rintro w0 O0 ⟨d,u⟩ hc - -
 simp only[Lb,AM]
 repeat'(first|exact trivial|refine eS rfl ?_|refine AB ?_|refine rX [0,2,3,4,5,7,8,9,10,15,27] hc ?_ ?_|refine rC ?_ ?_<;>intro AA<;>try(cases AA;done))
 ·have h1:EM d=([],BH d):=by unfold EM;rw[if_pos AA]
  exact AG hc [.tmp 2,.tmp 3] rfl (.inl rfl) (by simp) (by rw[h1];first|exact eR|refine Ap ?_)
 ·have h5:BH d=0:=by simpa using AA
  obtain⟨hz,-,-⟩:=CK h5
  obtain⟨h3,-,-⟩:=Be hz
  exact⟨(A3 h3).2.1,fun x hx=>(JS h3 x hx).2⟩
 ·have h5:BH d=0:=by simpa using AA
  obtain⟨hz,hf64,-⟩:=CK h5
  obtain⟨h3,-,hl⟩:=Be hz
  obtain⟨hsup,hd,-⟩:=A3 h3
  have hr:EM d=((DP d).map (S5 d),0):=by unfold EM;rw[if_neg (by rw[h5];simp)]
  rw[hl]
  generalize DP d=f at *
  refine AK (ι:={i:Nat//i≤f.length}) (fun i=>⟨[(0,.p EK d),(5,.p Im (Ax d)),(7,.p Bq f),(8,.sr 49 sU 0 ((f.take i.1).map (S5 d)).length),(9,.p (.int .i64) (i.1:Int))],[(49,.arr 162 sU ((f.take i.1).map (S5 d)))]⟩) (fun i=>f.length-i.1) ⟨0,Nat.zero_le _⟩ (AC [(49,.nil)] rfl rfl ?_ ?_) (fun i=>?_)
  ·first|exact eN|refine eM ?_
  ·first|exact eN|refine eM ?_
  ·obtain⟨i,hi⟩:=i
   have hlen:=XT (S5 d) f hi
   have hs:=fun h:i<f.length=>Ef (S5 d) f ByteArray.empty h
   simp only
   repeat'(first|exact trivial|refine eS rfl ?_|refine AB ?_|refine rX [0,2,3,4,5,7,8,9,10,15,27] hc ?_ ?_|refine rC ?_ ?_<;>intro AA<;>try(cases AA;done))
   ·exact⟨AA,hsup,hd⟩
   ·refine⟨AA,?_⟩
    rw[hlen]
    simp only[AO]
    omega
   ·omega
   ·have hi2:i<f.length:=Int.ofNat_lt.1 AA
    have e:=hs hi2
    refine⟨⟨i+1,hi2⟩,by simp only;omega,AC [(49,.nm 49)] rfl rfl ?_ ?_⟩
    ·simp only[e]
     first|exact eN|refine eM ?_
     rfl
    ·simp only[e]
     first|exact eN|refine eM ?_
   ·have hi2:f.take i=f:=List.take_of_length_le (Int.ofNat_le.1 AA)
    rw[hi2]
    refine Gb [49] ?_
    exact AG hc [.tmp 2,.tmp 3] rfl (.inl rfl) (by simp) (by rw[hr];first|exact eR|refine Ap ?_)
end
/- Functions of grammarlabref05: Values. -/
section
attribute [local go_sem] La IM Kg oO XK
def XU (d:List AJ) (l:List AQ) (f:List ByteArray) (t:Nat) (n:Nat):List (Int×Int) :=
 ((List.range n).filter fun(i:Nat)=>(Sy d l (t:Int) (f.getD i ByteArray.empty)).2).map fun(i:Nat)=>((i:Int),XJ l (Sy d l (t:Int) (f.getD i ByteArray.empty)).1)
def Km (d:List AJ) (l:List AQ) (f:List ByteArray) (n:Nat):List (List (Int×Int)):=(List.range n).map fun t=>XU d l f t f.length
def BJ (d:List AJ):List (List (Int×Int))×Int:=if BH d≠0 then ([],BH d) else (Km d (Ax d) (DP d) (Ax d).length,0)
theorem oP (d:List AJ) (l:List AQ) (f:List ByteArray) (t n:Nat):XU d l f t (n+1)=XU d l f t n++if (Sy d l (t:Int) (f.getD n ByteArray.empty)).2=true then [((n:Int),XJ l (Sy d l (t:Int) (f.getD n ByteArray.empty)).1)] else []:=by
 unfold XU
 rw[List.range_succ,List.filter_append,List.map_append]
 congr 1
 rw[List.filter_cons,List.filter_nil]
 split<;>rfl
theorem tW (d:List AJ) (l:List AQ) (f:List ByteArray) (t n:Nat):(XU d l f t n).length≤n:=by
 unfold XU
 rw[List.length_map]
 exact Nat.le_trans (List.length_filter_le _ _) (by simp)
theorem cV (d:List AJ) (l:List AQ) (f:List ByteArray) (n:Nat):Km d l f (n+1)=Km d l f n++[XU d l f n f.length]:=by simp[Km,List.range_succ]
theorem VY (d:List AJ) (l:List AQ) (f:List ByteArray) (n:Nat):(Km d l f n).length=n:=by simp[Km]
theorem tX {d:List AJ} {l:List AQ} (h:∀x∈l,x.2.length≤64) (t:Int) (s:ByteArray):(Sy d l t s).1.length≤64:=by
 unfold Sy
 refine Sz t s d ?_
 rw[List.getD_eq_getElem?_getD]
 cases hh:l[0]? with
 | none=>simp
 | some x=>exact h x (List.mem_of_getElem? hh)
def OL:Ac:={ ins:=[EK],pre:=fun _=>True,out:=fun(d,_)=>[.p xX (BJ d).1,.p Yp (BJ d).2] }
theorem cW:Ai Tryz.prog 58 OL:=by
 refine AP Tryz.func58 (by kernel_rfl) rfl Tryz.ntmps58 (by decide) (by kernel_rfl) (AH [(84,La),(59,IM),(85,Kg),(86,oO),(87,XK)]) (AE VX (AE OJ (AE Sn (AE tS (AE tF AI))))) ?_
 rintro w0 O0 ⟨d,u⟩ hc - -
 simp only[OL,AM]
 repeat'(first|exact trivial|refine eS rfl ?_|refine AB ?_|refine rX [0,2,3,4,5,7,8,9,10,11,12,13,17,29,35,49] hc ?_ ?_|refine rC ?_ ?_<;>intro AA<;>try(cases AA;done))
 ·have h1:BJ d=([],BH d):=by unfold BJ;rw[if_pos AA]
  exact AG hc [.tmp 2,.tmp 3] rfl (.inl rfl) (by simp) (by rw[h1];first|exact eR|refine Ap ?_)
 ·have h5:BH d=0:=by simpa using AA
  obtain⟨hz,-,-⟩:=CK h5
  obtain⟨h3,-,-⟩:=Be hz
  exact⟨(A3 h3).2.1,fun x hx=>(JS h3 x hx).2⟩
 ·have h5:BH d=0:=by simpa using AA
  obtain⟨hz,hf64,hdz⟩:=CK h5
  obtain⟨h3,hlen,hl⟩:=Be hz
  obtain⟨hsup,hd,-⟩:=A3 h3
  have hr:BJ d=(Km d (Ax d) (DP d) (Ax d).length,0):=by unfold BJ;rw[if_neg (by rw[h5];simp)]
  have hnr:=k8 h3 hdz
  have hwid:=Mv h3
  have hll:(Ax d).length≤256:=by rw[HL];exact hlen
  rw[hl]
  generalize Ax d=l at *
  generalize DP d=f at *
  have hiw:=fun t s=>tX (d:=d) hwid t s
  refine AK (ι:={t:Nat//t≤l.length}) (fun t=>⟨[(0,.p EK d),(5,.p Im l),(7,.p Bq f),(8,.sr 61 XB 0 (Km d l f t.1).length),(9,.p (.int .i64) (t.1:Int))],[(61,.arr 111 XB (Km d l f t.1))]⟩) (fun t=>l.length-t.1) ⟨0,Nat.zero_le _⟩ (AC [(61,.nil)] rfl rfl ?_ ?_) (fun t=>?_)
  ·first|exact eN|refine eM ?_
   rfl
  ·first|exact eN|refine eM ?_
   rfl
  ·obtain⟨t,ht⟩:=t
   have hlen:=VY d l f t
   have hs:=cV d l f t
   simp only
   repeat'(first|exact trivial|refine eS rfl ?_|refine AB ?_|refine rX [0,2,3,4,5,7,8,9,10,11,12,13,17,29,35,49] hc ?_ ?_|refine rC ?_ ?_<;>intro AA<;>try(cases AA;done))
   ·refine AK (ι:={i:Nat//i≤f.length}) (fun i=>⟨[(0,.p EK d),(5,.p Im l),(7,.p Bq f),(8,.sr 61 XB 0 (Km d l f t).length),(9,.p (.int .i64) (t:Int)),(10,.sr 57 sT 0 (XU d l f t i.1).length),(11,.p (.int .i64) (i.1:Int))],[(61,.arr 111 XB (Km d l f t)),(57,.arr 151 sT (XU d l f t i.1))]⟩) (fun i=>f.length-i.1) ⟨0,Nat.zero_le _⟩ (AC [(61,.nm 61),(57,.nil)] rfl rfl ?_ ?_) (fun i=>?_)
    ·first|exact eN|refine eM ?_
     rfl
    ·first|exact eN|refine eM ?_
     rfl
    ·obtain⟨i,hi⟩:=i
     have hol:=tW d l f t i
     have hos:=oP d l f t i
     simp only
     repeat'(first|exact trivial|refine eS rfl ?_|refine AB ?_|refine rX [0,2,3,4,5,7,8,9,10,11,12,13,17,29,35,49] hc ?_ ?_|refine rC ?_ ?_<;>intro AA<;>try(cases AA;done))
     ·exact⟨AA,hnr,by assumption,hll,hwid⟩
     ·refine⟨Nat.le_trans (hiw _ _) (by decide),?_⟩
      simp only[AO]
      omega
     ·omega
     ·have hi2:i<f.length:=Int.ofNat_lt.1 (by assumption)
      rw[if_pos AA]at hos
      refine⟨⟨i+1,hi2⟩,by simp only;omega,AC [(61,.nm 61),(57,.nm 57)] rfl rfl ?_ ?_⟩
      ·simp only[hos]
       first|exact eN|refine eM ?_
      ·simp only[hos]
       first|exact eN|refine eM ?_
     ·omega
     ·have hi2:i<f.length:=Int.ofNat_lt.1 (by assumption)
      rw[if_neg (by rw[AA];simp),List.append_nil]at hos
      refine⟨⟨i+1,hi2⟩,by simp only;omega,AC [(61,.nm 61),(57,.nm 57)] rfl rfl ?_ ?_⟩
      ·simp only[hos]
       first|exact eN|refine eM ?_
      ·simp only[hos]
       first|exact eN|refine eM ?_
     ·rw[hlen]
      simp only[AO]
      omega
     ·omega
     ·have ht2:t<l.length:=Int.ofNat_lt.1 (by assumption)
      have hi2:i=f.length:=by omega
      subst hi2
      refine⟨⟨t+1,ht2⟩,by simp only;omega,AC [(61,.nm 61)] rfl rfl ?_ ?_⟩
      ·simp only[hs]
       first|exact eN|refine eM ?_
      ·simp only[hs]
       first|exact eN|refine eM ?_
   ·have ht2:t=l.length:=by omega
    subst ht2
    refine Gb [61] ?_
    exact AG hc [.tmp 2,.tmp 3] rfl (.inl rfl) (by simp) (by rw[hr];first|exact eR|refine Ap ?_)
end
/- Functions of grammarlabref06: decl. -/
section
attribute [local go_sem] cs0
def Jp (l:List ByteArray) (n:Nat):List FV:=(List.range n).map fun k=>(l.getD (2*k) ByteArray.empty,l.getD (2*k+1) ByteArray.empty)
theorem S6 (l:List ByteArray) (n:Nat):Jp l (n+1)=Jp l n++[(l.getD (2*n) ByteArray.empty,l.getD (2*n+1) ByteArray.empty)]:=by simp[Jp,List.range_succ]
theorem VZ (l:List ByteArray) (n:Nat):(Jp l n).length=n:=by simp[Jp]
def XV (s:ByteArray):List ByteArray:=if Ar s ByteArray.empty=true then [] else [s]
def FY (n s:ByteArray) (l:List ByteArray):AJ:=(n,XV s,Jp l (l.length / 2))
def lA:Ac:={ ins:=[T9,T9,Bq],pre:=fun(_,_,l,_)=>List.length l≤1000,out:=fun(n,s,l,_)=>[.p nU (FY n s l)] }
theorem A0i:Ai Tryz.prog 62 lA:=by
 refine AP Tryz.func62 (by kernel_rfl) rfl Tryz.ntmps62 (by decide) (by kernel_rfl) (AH []) AI ?_
 rintro w0 O0 ⟨n,s,l,u⟩ hc-hl
 have hl:l.length≤1000:=hl
 simp only[lA,AM]
 repeat'(first|exact trivial|refine eS rfl ?_|refine AB ?_|refine rX [0,1,2,6,7,8,12,20] hc ?_ ?_|refine rC ?_ ?_<;>intro AA<;>try(cases AA;done))
 ·have hcd:=AA
  refine Gb [14] ?_
  refine AK (ι:={k:Nat//2*k≤l.length}) (fun k=>⟨[(2,.p Bq l),(6,.bp 6 [] 0),(7,.bp 7 [] 0),(8,.p (.int .i64) ((2*k.1:Nat):Int))],[(6,.box 119 true [.p T9 ByteArray.empty,.raw (.slice none 0 0),.raw (.slice none 0 0)]),(7,.box 119 true [.p T9 n,.p Bq [s],.sr 36 b6 0 (Jp l k.1).length]),(36,.arr 164 b6 (Jp l k.1))]⟩) (fun k=>l.length-2*k.1) ⟨0,Nat.zero_le _⟩ (AC [(6,.nm 6),(7,.nm 7),(36,.nil)] rfl rfl ?_ ?_) (fun k=>?_)
  ·first|exact eN|refine eM ?_
   exact⟨rfl,rfl⟩
  ·first|exact eN|refine eM ?_
  ·obtain⟨k,hk⟩:=k
   have hpl:=VZ l k
   have hps:=S6 l k
   simp only
   repeat'(first|exact trivial|refine eS rfl ?_|refine AB ?_|refine rX [0,1,2,6,7,8,12,20] hc ?_ ?_|refine rC ?_ ?_<;>intro AA<;>try(cases AA;done))
   ·exact eV
   ·refine⟨by exact eV,⟨by exact eV,by exact eV⟩,⟨by exact eV,by exact eV⟩,?_⟩
    rw[hpl]
    simp only[AO]
    exact eV
   ·exact eV
   ·have hk2:2*k+1<l.length:=by exact eV
    have e1:((2*k:Nat):Int)+1=((2*k+1:Nat):Int):=by omega
    refine⟨⟨k+1,by omega⟩,by simp only;omega,AC [(6,.nm 6),(7,.nm 7),(36,.nm 36)] rfl rfl ?_ ?_⟩
    ·simp only[hps]
     first|exact eN|refine eM ?_
     rw[e1]
     rfl
    ·simp only[hps]
     first|exact eN|refine eM ?_
     show ((2*k:Nat):Int)+2=((2*(k+1):Nat):Int)
     omega
   ·have hk2:k=l.length / 2:=by exact eV
    refine Gb [36] ?_
    have hr:FY n s l=(n,[s],Jp l k):=by
     unfold FY XV
     rw[←hk2,if_neg (by rw[show Ar s ByteArray.empty=false from hcd];simp)]
    exact AG hc [.cell 6 119] rfl (.inl rfl) (by simp) (by rw[hr];first|exact eR|refine Ap ?_)
 ·have hcd:=AA
  refine AK (ι:={k:Nat//2*k≤l.length}) (fun k=>⟨[(2,.p Bq l),(6,.bp 6 [] 0),(7,.bp 7 [] 0),(8,.p (.int .i64) ((2*k.1:Nat):Int))],[(6,.box 119 true [.p T9 ByteArray.empty,.raw (.slice none 0 0),.raw (.slice none 0 0)]),(7,.box 119 true [.p T9 n,.p Bq ([]:List ByteArray),.sr 36 b6 0 (Jp l k.1).length]),(36,.arr 164 b6 (Jp l k.1))]⟩) (fun k=>l.length-2*k.1) ⟨0,Nat.zero_le _⟩ (AC [(6,.nm 6),(7,.nm 7),(36,.nil)] rfl rfl ?_ ?_) (fun k=>?_)
  ·first|exact eN|refine eM ?_
   exact⟨rfl,rfl⟩
  ·first|exact eN|refine eM ?_
  ·obtain⟨k,hk⟩:=k
   have hpl:=VZ l k
   have hps:=S6 l k
   simp only
   repeat'(first|exact trivial|refine eS rfl ?_|refine AB ?_|refine rX [0,1,2,6,7,8,12,20] hc ?_ ?_|refine rC ?_ ?_<;>intro AA<;>try(cases AA;done))
   ·exact eV
   ·refine⟨by exact eV,⟨by exact eV,by exact eV⟩,⟨by exact eV,by exact eV⟩,?_⟩
    rw[hpl]
    simp only[AO]
    exact eV
   ·exact eV
   ·have hk2:2*k+1<l.length:=by exact eV
    have e1:((2*k:Nat):Int)+1=((2*k+1:Nat):Int):=by omega
    refine⟨⟨k+1,by omega⟩,by simp only;omega,AC [(6,.nm 6),(7,.nm 7),(36,.nm 36)] rfl rfl ?_ ?_⟩
    ·simp only[hps]
     first|exact eN|refine eM ?_
     rw[e1]
     rfl
    ·simp only[hps]
     first|exact eN|refine eM ?_
     show ((2*k:Nat):Int)+2=((2*(k+1):Nat):Int)
     omega
   ·have hk2:k=l.length / 2:=by exact eV
    refine Gb [36] ?_
    have hr:FY n s l=(n,([]:List ByteArray),Jp l k):=by
     unfold FY XV
     rw[←hk2,if_pos (show Ar s ByteArray.empty=true from hcd)]
    exact AG hc [.cell 6 119] rfl (.inl rfl) (by simp) (by rw[hr];first|exact eR|refine Ap ?_)
end
/- Functions of grammarlabref06: Prelude. -/
section
attribute [local go_sem] lA cs0 cs1 cs2 cs3 cs4 cs5 cs6 cs7 cs8
def HN:List AJ:=[
 FY { data:=#[116,111,112] } { data:=#[] } [],
 FY { data:=#[108,105,115,116] } { data:=#[116,111,112] } [],
 FY { data:=#[99,111,110,115] } { data:=#[108,105,115,116] } [{ data:=#[70,73,82,83,84] },{ data:=#[116,111,112] },{ data:=#[82,69,83,84] },{ data:=#[108,105,115,116] }],
 FY { data:=#[110,117,108,108] } { data:=#[108,105,115,116] } [],
 FY { data:=#[100,108,105,115,116] } { data:=#[116,111,112] } [{ data:=#[76,73,83,84] },{ data:=#[108,105,115,116] },{ data:=#[76,65,83,84] },{ data:=#[108,105,115,116] }],
 FY { data:=#[105,110,100,101,120] } { data:=#[116,111,112] } [],
 FY { data:=#[104,97,110,100,108,101] } { data:=#[105,110,100,101,120] } [],
 FY { data:=#[101,118,101,110,116] } { data:=#[105,110,100,101,120] } [],
 FY { data:=#[101,110,116,105,116,121] } { data:=#[105,110,100,101,120] } [],
 FY { data:=#[114,101,108] } { data:=#[116,111,112] } [{ data:=#[76,65,66,69,76] },{ data:=#[104,97,110,100,108,101] }],
 FY { data:=#[113,101,113] } { data:=#[116,111,112] } [{ data:=#[72,73,71,72] },{ data:=#[104,97,110,100,108,101] },{ data:=#[76,79,87] },{ data:=#[104,97,110,100,108,101] }],
 FY { data:=#[115,101,109] } { data:=#[116,111,112] } [{ data:=#[84,79,80] },{ data:=#[104,97,110,100,108,101] },{ data:=#[73,78,68,69,88] },{ data:=#[105,110,100,101,120] },{ data:=#[82,69,76,83] },{ data:=#[100,108,105,115,116] },{ data:=#[67,79,78,83] },{ data:=#[100,108,105,115,116] }],
 FY { data:=#[115,105,103,110] } { data:=#[116,111,112] } [{ data:=#[83,69,77] },{ data:=#[115,101,109] },{ data:=#[65,82,71,83] },{ data:=#[108,105,115,116] }]]
def OM:Ac:={ ins:=[],pre:=fun _=>True,out:=fun _=>[.p EK HN] }
theorem cX:Ai Tryz.prog 36 OM:=by
 refine AP Tryz.func36 (by kernel_rfl) rfl Tryz.ntmps36 (by decide) (by kernel_rfl) (AH [(62,lA)] [3,6,12,14,16,18,20]) (AE A0i AI) ?_
 rintro w0 O0 u hc - -
 simp only[OM,AM]
 repeat'(first|exact trivial|refine eS rfl ?_|refine AB ?_|refine rX [0] hc ?_ ?_|refine rC ?_ ?_<;>intro AA<;>try(cases AA;done))
 exact AG hc [.tmp 0] rfl (.inl rfl) (by simp) (by unfold HN;first|exact eR|refine Ap ?_)
end
/- Functions of grammarlabref06: Compile. -/
section
attribute [local go_sem] OL IM k7 Lb
abbrev Iq:=ByteArray×List Int×List Int×List (Int×Int)
abbrev AN:=List Iq×List tV
def Eg (l:List AQ) (v:List (List (Int×Int))) (n:Nat):List Iq:=(List.range n).map fun i=>((l.getD i c0).1,(l.getD i c0).2,ZO l (i:Int),v.getD i [])
theorem cZ (l:List AQ) (v:List (List (Int×Int))) (n:Nat):Eg l v (n+1)=Eg l v n++[((l.getD n c0).1,(l.getD n c0).2,ZO l (n:Int),v.getD n [])]:=by simp[Eg,List.range_succ]
theorem Lc (l:List AQ) (v:List (List (Int×Int))) (n:Nat):(Eg l v n).length=n:=by simp[Eg]
def GD (d:List AJ):AN:=(Eg (Ax d) (BJ d).1 (Ax d).length,(EM d).1)
def A8 (d:List AJ):AN×Int:=if (BJ d).2≠0 then (([],[]),(BJ d).2) else (GD d,0)
def OO:Ac:={ ins:=[EK],pre:=fun _=>True,out:=fun(d,_)=>[.p II (A8 d).1,.p Yp (A8 d).2] }
theorem c6:Ai Tryz.prog 35 OO:=by
 refine AP Tryz.func35 (by kernel_rfl) rfl Tryz.ntmps35 (by decide) (by kernel_rfl) (AH [(58,OL),(59,IM),(60,k7),(61,Lb)]) (AE cW (AE OJ (AE A0d (AE ZU AI)))) ?_
 rintro w0 O0 ⟨d,u⟩ hc - -
 simp only[OO,AM]
 repeat'(first|exact trivial|refine eS rfl ?_|refine AB ?_|refine rX [0,2,3,4,5,6,8,9,10,18,29] hc ?_ ?_|refine rC ?_ ?_<;>intro AA<;>try(cases AA;done))
 ·have h1:A8 d=(([],[]),(BJ d).2):=by unfold A8;rw[if_pos AA]
  exact AG hc [.cell 2 37,.tmp 3] rfl (.inl rfl) (by simp) (by rw[h1];first|exact eR|refine Ap ?_)
 ·have hv:(BJ d).2=0:=by simpa using AA
  have h5:BH d=0:=by
   unfold BJ at hv
   split at hv
   ·rename_i h;exact absurd hv h
   ·rename_i h;exact Classical.byContradiction h
  obtain⟨hz,hf64,hdz⟩:=CK h5
  obtain⟨h3,hlen,hl⟩:=Be hz
  have hr:A8 d=(GD d,0):=by unfold A8;rw[if_neg (by rw[hv];simp)]
  have hvl:(BJ d).1.length=(Ax d).length:=by
   unfold BJ
   rw[if_neg (by rw[h5];simp)]
   exact VY _ _ _ _
  have hwid:=Mv h3
  have hll:(Ax d).length≤256:=by rw[HL];exact hlen
  unfold GD at hr
  rw[hl]
  generalize Ax d=l at *
  generalize (BJ d).1=v at *
  refine AK (ι:={n:Nat//n≤l.length}) (fun n=>⟨[(0,.p EK d),(2,.bp 2 [] 0),(4,.p xX v),(6,.p Im l),(8,.bp 8 [] 0),(9,.p (.int .i64) (n.1:Int))],[(2,.box 37 true [.raw (.slice none 0 0),.raw (.slice none 0 0)]),(8,.box 37 true [.sr 53 nT 0 (Eg l v n.1).length,.raw (.slice none 0 0)]),(53,.arr 113 nT (Eg l v n.1))]⟩) (fun n=>l.length-n.1) ⟨0,Nat.zero_le _⟩ (AC [(2,.nm 2),(8,.nm 8),(53,.nil)] rfl rfl ?_ ?_) (fun n=>?_)
  ·first|exact eN|refine eM ?_
   exact⟨rfl,rfl⟩
  ·first|exact eN|refine eM ?_
  ·obtain⟨n,hn⟩:=n
   have htl:=Lc l v n
   have hts:=cZ l v n
   simp only
   repeat'(first|exact trivial|refine eS rfl ?_|refine AB ?_|refine rX [0,2,3,4,5,6,8,9,10,18,29] hc ?_ ?_|refine rC ?_ ?_<;>intro AA<;>try(cases AA;done))
   ·refine⟨AA,AA,⟨AA,hll,hwid⟩,by rw[hvl];exact AA,?_⟩
    rw[htl]
    simp only[AO]
    omega
   ·omega
   ·have hn2:n<l.length:=Int.ofNat_lt.1 AA
    refine⟨⟨n+1,hn2⟩,by simp only;omega,AC [(2,.nm 2),(8,.nm 8),(53,.nm 53)] rfl rfl ?_ ?_⟩
    ·simp only[hts]
     first|exact eN|refine eM ?_
    ·simp only[hts]
     first|exact eN|refine eM ?_
   ·have hn2:n=l.length:=by omega
    subst hn2
    refine Gb [53] ?_
    exact AG hc [.cell 2 37,.tmp 3] rfl (.inl rfl) (by simp) (by rw[hr];first|exact eR|refine Ap ?_)
def CL (d:List AJ):AN:=if d.length≤20∧(A8 d).2=0 then (A8 d).1 else (A8 HN).1
end
/- Functions of bits: word, Subset; hier: Subsumes. -/
section
def XW:Ac:={ ins:=[A6,T3],pre:=fun(_,i,_)=>(0:Int)≤i,out:=fun(b,i,_)=>[.p Nv (FX b i)],lend:=true }
attribute [local go_sem] XW
theorem tY:Ai Tryz.prog 139 XW:=by
 refine AP Tryz.func139 (by kernel_rfl) rfl Tryz.ntmps139 (by decide) (by kernel_rfl) (AH []) AI ?_
 rintro w0 O0 ⟨b,i,u⟩ hc-hi
 simp only[XW,AM]
 repeat'(first|exact trivial|refine eS rfl ?_|refine AB ?_|refine rX [0,1,4,8] hc ?_ ?_|refine rC ?_ ?_<;>intro AA<;>try(cases AA;done))
 ·exact⟨hi,AA⟩
 ·have h1:FX b i=b.getD i.toNat 0:=by unfold FX;rw[if_pos AA]
  exact AG hc [.tmp 4] rfl (.inl rfl) (by simp) (by rw[h1];first|exact eR|refine Ap ?_)
 ·have h1:FX b i=0:=by unfold FX;rw[if_neg (Int.not_lt.2 AA)]
  exact AG hc [.tmp 4] rfl (.inl rfl) (by simp) (by rw[h1];first|exact eR|refine Ap ?_)
def Kn (a b:List Int):Bool:=(List.range a.length).all fun i=>CJ .andNot .u64 (a.getD i 0) (FX b (i:Int))==0
def ZV (a b:List Int) (n:Nat):Bool:=(List.range n).all fun i=>CJ .andNot .u64 (a.getD i 0) (FX b (i:Int))==0
theorem c7 (a b:List Int) (n:Nat):ZV a b (n+1)=(ZV a b n&&CJ .andNot .u64 (a.getD n 0) (FX b (n:Int))==0):=by
 unfold ZV
 rw[List.range_succ,List.all_append]
 simp
def Ko:Ac:={ ins:=[A6,A6],pre:=fun _=>True,out:=fun(a,b,_)=>[.p .bool (Kn a b)],lend:=true }
attribute [local go_sem] Ko
theorem c8:Ai Tryz.prog 98 Ko:=by
 refine AP Tryz.func98 (by kernel_rfl) rfl Tryz.ntmps98 (by decide) (by kernel_rfl) (AH [(139,XW)]) (AE tY AI) ?_
 rintro w0 O0 ⟨a,b,u⟩ hc ⟨⟨hal,-⟩,-⟩ -
 simp only[AO]at hal
 simp only[Ko,AM]
 repeat'(first|exact trivial|refine eS rfl ?_|refine AB ?_|refine rX [0,1,4,5,6,7,8,9,10,19] hc ?_ ?_|refine rC ?_ ?_<;>intro AA<;>try(cases AA;done))
 have hfp:Kn a b=ZV a b a.length:=rfl
 refine AK (ι:={n:Nat//n≤a.length∧ZV a b n=true}) (fun n=>⟨[(1,.p A6 b),(7,.p A6 a),(8,.p (.int .i64) (a.length:Int)),(9,.p (.int .i64) (n.1:Int))],[]⟩) (fun n=>a.length-n.1) ⟨0,Nat.zero_le _,rfl⟩ (AC [] rfl rfl ?_ ?_) (fun n=>?_)
 ·first|exact eN|refine eM ?_
 ·first|exact eN|refine eM ?_
 ·obtain⟨n,hn,hall⟩:=n
  have hs:=c7 a b n
  simp only
  repeat'(first|exact trivial|refine eS rfl ?_|refine AB ?_|refine rX [0,1,4,5,6,7,8,9,10,19] hc ?_ ?_|refine rC ?_ ?_<;>intro AA<;>try(cases AA;done))
  ·exact AA
  ·have hn2:n<a.length:=by exact eV
   have h1:Kn a b=false:=by
    unfold Kn
    rw[List.all_eq_false]
    exact⟨n,List.mem_range.2 hn2,by simpa using AA⟩
   exact AG hc [.tmp 4] rfl (.inl rfl) (by simp) (by rw[h1];first|exact eR|refine Ap ?_)
  ·exact eV
  ·have hn2:n<a.length:=by exact eV
   refine⟨⟨n+1,hn2,?_⟩,by simp only;omega,AC [] rfl rfl ?_ ?_⟩
   ·rw[hs,hall]
    simpa using AA
   ·first|exact eN|refine eM ?_
   ·first|exact eN|refine eM ?_
  ·have hn2:n=a.length:=by exact eV
   subst hn2
   exact AG hc [.tmp 4] rfl (.inl rfl) (by simp) (by rw[hfp,hall];first|exact eR|refine Ap ?_)
abbrev Va:Iq:=(ByteArray.empty,[],[],[])
def Cr (h:AN) (a b:Int):Bool:=Kn (h.1.getD b.toNat Va).2.1 (h.1.getD a.toNat Va).2.1
end
/- Functions of bits: normal, And, Equal; hier: Meet. -/
section
attribute [local go_sem] Ko
def OP:Ac:={ ins:=[A6],pre:=fun(b,_)=>List.length b≤100000,out:=fun(b,_)=>[.p A6 (BC b)] }
attribute [local go_sem] OP
theorem c9:Ai Tryz.prog 97 OP:=by
 refine AP Tryz.func97 (by kernel_rfl) rfl Tryz.ntmps97 (by decide) (by kernel_rfl) (AH []) AI ?_
 rintro w0 O0 ⟨b,u⟩ hc-hb
 have hb:b.length≤100000:=hb
 simp only[OP,AM]
 repeat'(first|exact trivial|refine eS rfl ?_|refine AB ?_|refine rX [0,2,3,15] hc ?_ ?_|refine rC ?_ ?_<;>intro AA<;>try(cases AA;done))
 refine AK (ι:={n:Nat//n≤b.length∧CQ b n=CQ b b.length}) (fun n=>⟨[(0,.p A6 b),(3,.p (.int .i64) (n.1:Int))],[]⟩) (fun n=>n.1) ⟨b.length,Nat.le_refl _,rfl⟩ (AC [] rfl rfl ?_ ?_) (fun n=>?_)
 ·first|exact eN|refine eM ?_
 ·first|exact eN|refine eM ?_
 ·obtain⟨n,hn,hg⟩:=n
  simp only
  repeat'(first|exact trivial|refine eS rfl ?_|refine AB ?_|refine rX [0,2,3,15] hc ?_ ?_|refine rC ?_ ?_<;>intro AA<;>try(cases AA;done))
  ·constructor
   ·exact eV
   ·intro h
    refine⟨?_,?_⟩<;>exact eV
  ·exact eV
  ·obtain⟨h1,h2⟩:=AA
   obtain⟨m,rfl⟩:∃m,n=m+1:=⟨n-1,by omega⟩
   have e:(((m+1:Nat):Int)-1)=(m:Int):=by omega
   rw[e]at h2
   have h2:b.getD m 0=0:=h2
   have hg2:CQ b m=CQ b b.length:=by
    rw[←hg]
    show _=if b.getD m 0=0 then CQ b m else m+1
    rw[if_pos h2]
   refine⟨⟨m,by omega,hg2⟩,by simp,AC [] rfl rfl ?_ ?_⟩
   ·first|exact eN|refine eM ?_
   ·simp only[e]
    first|exact eN|refine eM ?_
  ·exact Int.ofNat_le.2 hn
  ·have hend:CQ b n=n:=by
    cases n with
    | zero=>rfl
    | succ m =>
     have e:(((m+1:Nat):Int)-1)=(m:Int):=by omega
     rw[e]at AA
     have h2:=AA (by omega)
     have h2:¬b.getD m 0=0:=h2
     show (if b.getD m 0=0 then CQ b m else m+1)=m+1
     rw[if_neg h2]
   have h1:BC b=b.take n:=by unfold BC;rw[←hg,hend]
   rw[←h1]
   exact AG hc [.tmp 2] rfl (.inl rfl) (by simp) (by first|exact eR|refine Ap ?_)
def GE (g:Nat→Int) (n i:Nat):List Int:=(List.range n).map fun j=>if j<i then g j else 0
theorem Vb (g:Nat→Int) (n i:Nat):(GE g n i).length=n:=by simp[GE]
theorem dA (g:Nat→Int) (n:Nat):GE g n 0=List.replicate n 0:=by
 apply List.ext_getElem
 ·simp[GE]
 ·intro j h1 h2
  simp[GE]
theorem oQ (g:Nat→Int) (n i:Nat):(GE g n i).set i (g i)=GE g n (i+1):=by
 apply List.ext_getElem
 ·simp[GE]
 ·intro j h1 h2
  simp only[GE,List.getElem_set,List.getElem_map,List.getElem_range]
  split
  ·rename_i e;rw[if_pos (by omega),e]
  ·rename_i e
   by_cases hj:j<i
   ·rw[if_pos hj,if_pos (by omega)]
   ·rw[if_neg hj,if_neg (by omega)]
def XX (a b:List Int) (i:Nat):Int:=CJ .and .u64 (a.getD i 0) (b.getD i 0)
def FL (a b:List Int):List Int:=BC (GE (XX a b) (min a.length b.length) (min a.length b.length))
def lB:Ac:={ ins:=[A6,A6],pre:=fun(a,_,_)=>List.length a≤100000,out:=fun(a,b,_)=>[.p A6 (FL a b)] }
attribute [local go_sem] lB
theorem A0j:Ai Tryz.prog 63 lB:=by
 refine AP Tryz.func63 (by kernel_rfl) rfl Tryz.ntmps63 (by decide) (by kernel_rfl) (AH [(97,OP)]) (AE c9 AI) ?_
 rintro w0 O0 ⟨a,b,u⟩ hc-ha
 have ha:a.length≤100000:=ha
 simp only[lB,AM]
 repeat'(first|exact trivial|refine eS rfl ?_|refine AB ?_|refine rX [0,1,4,5,6,14,15,16] hc ?_ ?_|refine rC ?_ ?_<;>intro AA<;>try(cases AA;done))
 ·split<;>simp only[AO]<;>dsimp only[Ty.den]at *<;>omega
 ·have hmin:Int.toNat (if ((List.length b:Nat):Int)<((List.length a:Nat):Int) then ((List.length b:Nat):Int) else ((List.length a:Nat):Int))=min (List.length a) (List.length b):=by split<;>omega
  rw[hmin]
  have hr:FL a b=BC (GE (XX a b) (min a.length b.length) (min a.length b.length)):=rfl
  have hma:min a.length b.length≤a.length:=Nat.min_le_left _ _
  have hmb:min a.length b.length≤b.length:=Nat.min_le_right _ _
  generalize min a.length b.length=n at *
  refine AK (ι:={i:Nat//i≤n}) (fun i=>⟨[(0,.p A6 a),(1,.p A6 b),(5,.sr 12 Nv 0 n),(14,.p (.int .i64) (n:Int)),(15,.p (.int .i64) (i.1:Int))],[(12,.arr 165 Nv (GE (XX a b) n i.1))]⟩) (fun i=>n-i.1) ⟨0,Nat.zero_le _⟩ (AC [(12,.nm 12)] rfl rfl ?_ ?_) (fun i=>?_)
  ·first|exact eN|refine eM ?_
   rw[dA]
  ·first|exact eN|refine eM ?_
  ·obtain⟨i,hi⟩:=i
   have hfl:=Vb (XX a b) n i
   simp only
   repeat'(first|exact trivial|refine eS rfl ?_|refine AB ?_|refine rX [0,1,4,5,6,14,15,16] hc ?_ ?_|refine rC ?_ ?_<;>intro AA<;>try(cases AA;done))
   ·have hi2:i<n:=Int.ofNat_lt.1 AA
    exact⟨by exact eV,by exact eV,AA⟩
   ·exact eV
   ·have hi2:i<n:=Int.ofNat_lt.1 AA
    refine⟨⟨i+1,hi2⟩,by simp only;omega,AC [(12,.nm 12)] rfl rfl ?_ ?_⟩
    ·simp only[←oQ]
     first|exact eN|refine eM ?_
     rfl
    ·first|exact eN|refine eM ?_
   ·have hi2:i=n:=by omega
    subst hi2
    have ht:(GE (XX a b) i i).take i=GE (XX a b) i i:=List.take_of_length_le (by rw[hfl];exact Nat.le_refl _)
    refine Gb [12] ?_
    repeat'(first|exact trivial|refine eS rfl ?_|refine AB ?_|refine rX [0,1,4,5,6,14,15,16] hc ?_ ?_|refine rC ?_ ?_<;>intro AA<;>try(cases AA;done))
    ·rw[ht,hfl]
     dsimp only[Ty.den]at *
     omega
    ·rw[ht]
     exact AG hc [.tmp 4] rfl (.inl rfl) (by simp) (by rw[hr];first|exact eR|refine Ap ?_)
def DR (a b:List Int):Bool:=Kn a b&&Kn b a
def Rb:Ac:={ ins:=[A6,A6],pre:=fun _=>True,out:=fun(a,b,_)=>[.p .bool (DR a b)],lend:=true }
attribute [local go_sem] Rb
theorem oT:Ai Tryz.prog 66 Rb:=by
 refine AP Tryz.func66 (by kernel_rfl) rfl Tryz.ntmps66 (by decide) (by kernel_rfl) (AH [(98,Ko)]) (AE c8 AI) ?_
 rintro w0 O0 ⟨a,b,u⟩ hc - -
 simp only[Rb,AM]
 repeat'(first|exact trivial|refine eS rfl ?_|refine AB ?_|refine rX [0,1,4] hc ?_ ?_|refine rC ?_ ?_<;>intro AA<;>try(cases AA;done))
 exact AG hc [.tmp 4] rfl (.inl rfl) (by simp) (by unfold DR;first|exact eR|refine Ap ?_)
def EP (c:List Int):Nat→List Iq→Int
 | _,[]=>-1
 | k,t :: l=>if DR t.2.1 c=true then (k:Int) else EP c (k+1) l
theorem dB (c:List Int) (l:List Iq) {k:Nat} (h:k<l.length):EP c k (l.drop k)=if DR (l.getD k Va).2.1 c=true then (k:Int) else EP c (k+1) (l.drop (k+1)):=by
 rw[List.drop_eq_getElem_cons h]
 have e:l.getD k Va=l[k]:=by simp[List.getD_eq_getElem?_getD,h]
 rw[e]
 rfl
theorem tZ (c:List Int) (t:Iq):Ca Tryz.prog 65 [.p nT t,.bp 1 [] 0] [(1,.box 107 false [.p A6 c])] [1] (fun res objs'=>res=.p .bool (DR t.2.1 c)∧objs'=[(1,.box 107 false [.p A6 c])]):=by
 refine DJ Tryz.func65 (by kernel_rfl) rfl Tryz.ntmps65 (by simp only[List.length_cons,List.length_nil];omega) (by kernel_rfl) rfl rfl (AH [(66,Rb)]) (AE oT AI) ?_
 intro w0 K O0 ρ0 hc hok1 hok2
 simp only[BU]
 repeat'(first|exact trivial|refine eS rfl ?_|refine AB ?_|refine rX [0,1,2,3] hc ?_ ?_|refine rC ?_ ?_<;>intro AA<;>try(cases AA;done))
 refine Ev.ent (σ':=⟨[(3,.p .bool (DR t.2.1 c))],[(1,.box 107 false [.p A6 c])]⟩) ?_ (AC [(1,.nm 1)] rfl rfl ?_ ?_)
 ·exact Bp hc [.tmp 3] rfl (.inl rfl) (.p .bool (DR t.2.1 c)) eT ⟨rfl,rfl⟩
 ·first|exact eN|refine eM ?_
 ·first|exact eN|refine eM ?_
theorem oU (l:List Iq) (c:List Int) (hl:l.length≤100000):Ca Tryz.prog 64 [.p Xx l,.clo 65 [1]] [(1,.box 107 false [.p A6 c])] [1] (fun res objs'=>res=.p T3 (EP c 0 l)∧objs'=[(1,.box 107 false [.p A6 c])]):=by
 refine DJ Tryz.func64 (by kernel_rfl) rfl Tryz.ntmps64 (by simp only[List.length_cons,List.length_nil];omega) (by kernel_rfl) rfl rfl (AH []) AI ?_
 intro w0 K O0 ρ0 hc hok1 hok2
 simp only[BU]
 repeat'(first|exact trivial|refine eS rfl ?_|refine AB ?_|refine rX [0,1,4,5,7,8,9,16] hc ?_ ?_|refine rC ?_ ?_<;>intro AA<;>try(cases AA;done))
 refine AK (ι:={k:Nat//k≤l.length∧EP c k (l.drop k)=EP c 0 l}) (fun k=>⟨[(0,.p Xx l),(1,.clo 65 [1]),(7,.p (.int .i64) (l.length:Int)),(8,.p (.int .i64) (k.1:Int))],[(1,.box 107 false [.p A6 c])]⟩) (fun k=>l.length-k.1) ⟨0,Nat.zero_le _,rfl⟩ (AC [(1,.nm 1)] rfl rfl ?_ ?_) (fun k=>?_)
 ·first|exact eN|refine eM ?_
 ·first|exact eN|refine eM ?_
 ·obtain⟨k,hk,hf⟩:=k
  have hst:=fun h:k<l.length=>dB c l h
  simp only
  repeat'(first|exact trivial|refine eS rfl ?_|refine AB ?_|refine rX [0,1,4,5,7,8,9,16] hc ?_ ?_|refine rC ?_ ?_<;>intro AA<;>try(cases AA;done))
  ·have hk2:k<l.length:=Int.ofNat_lt.1 AA
   have hs2:=hst hk2
   refine cP 5 hc ?_ ?_
   ·exact AA
   ·refine rM hc (tZ c (l.getD k Va)) [(1,.nm 1)] [] ?_ ?_ ?_
    ·first|exact eN|refine eM ?_
    ·first|exact eN|refine eM ?_
    ·rintro _ _ ⟨rfl,rfl⟩
     refine⟨[(1,.nm 1)],.p .bool (DR (l.getD k Va).2.1 c),[(1,.box 107 false [.p A6 c])],rfl,rfl,?_,?_,rfl,rfl,EJ ?_⟩
     ·first|exact eN|refine eM ?_
     ·first|exact eN|refine eM ?_
     ·repeat'(first|exact trivial|refine eS rfl ?_|refine AB ?_|refine rX [0,1,4,5,7,8,9,16] hc ?_ ?_|refine rC ?_ ?_<;>intro AA<;>try(cases AA;done))
      ·have AA:DR (l.getD k Va).2.1 c=true:=AA
       rw[if_pos AA,hf]at hs2
       refine Ev.ent (σ':=⟨[(4,.p (.int .i64) (k:Int))],[(1,.box 107 false [.p A6 c])]⟩) ?_ (AC [(1,.nm 1)] rfl rfl ?_ ?_)
       ·exact Bp hc [.tmp 4] rfl (.inl rfl) (.p T3 (k:Int)) eT ⟨by rw[hs2],rfl⟩
       ·first|exact eN|refine eM ?_
       ·first|exact eN|refine eM ?_
      ·omega
      ·have AA:DR (l.getD k Va).2.1 c=false:=AA
       rw[if_neg (by rw[AA];simp)]at hs2
       refine⟨⟨k+1,hk2,hs2.symm.trans hf⟩,by simp only;omega,AC [(1,.nm 1)] rfl rfl ?_ ?_⟩
       ·first|exact eN|refine eM ?_
       ·first|exact eN|refine eM ?_
  ·have hk2:l.drop k=[]:=List.drop_eq_nil_of_le (Int.ofNat_le.1 AA)
   rw[hk2]at hf
   have hf:(-1:Int)=EP c 0 l:=hf
   refine Ev.ent (σ':=⟨[(4,.p (.int .i64) (-1))],[(1,.box 107 false [.p A6 c])]⟩) ?_ (AC [(1,.nm 1)] rfl rfl ?_ ?_)
   ·exact Bp hc [.tmp 4] rfl (.inl rfl) (.p T3 (-1)) eT ⟨by rw[hf],rfl⟩
   ·first|exact eN|refine eM ?_
   ·first|exact eN|refine eM ?_
def BO (h:AN) (t:Int):List Int:=(h.1.getD t.toNat Va).2.1
def Ba (h:AN) (a b:Int):Int×Bool :=
 if (FL (BO h a) (BO h b)).length=0 then (0,false) else if EP (FL (BO h a) (BO h b)) 0 h.1<0 then (0,false) else (EP (FL (BO h a) (BO h b)) 0 h.1,true)
def Ql:Ac:={ ins:=[II,T3,T3],pre:=fun(h,a,b,_)=>((0:Int)≤a∧a<(List.length (h:AN).1:Int))∧((0:Int)≤b∧b<(List.length (h:AN).1:Int))∧List.length (h:AN).1≤100000∧(∀x∈(h:AN).1,x.2.1.length≤100000),out:=fun(h,a,b,_)=>[.p T3 (Ba h a b).1,.p .bool (Ba h a b).2],lend:=true }
theorem XY:Ai Tryz.prog 37 Ql:=by
 refine AP Tryz.func37 (by kernel_rfl) rfl Tryz.ntmps37 (by decide) (by kernel_rfl) (AH [(63,lB)]) (AE A0j AI) ?_
 rintro w0 O0 ⟨⟨ht,hf⟩,a,b,u⟩ hc-⟨ha,hb,hl,hx⟩
 simp only[Ql,AM]
 refine Ev.ent (σ':=⟨[(0,.p II (ht,hf)),(1,.p T3 a),(2,.p T3 b)],[]⟩) ?_ (AC [] rfl rfl ?_ ?_)
 ·repeat'(first|exact trivial|refine eS rfl ?_|refine AB ?_|refine rX [0,1,2,3,6,7,8,9,25,31] hc ?_ ?_|refine rC ?_ ?_<;>intro AA<;>try(cases AA;done))
  ·refine⟨ha,hb,?_⟩
   have h1:Int.toNat a<List.length ht:=(Int.toNat_lt ha.1).2 ha.2
   exact hx _ (AD (ht:List Iq) Va h1)
  ·have hr:Ba (ht,hf) a b=(0,false):=by
    unfold Ba
    rw[if_pos (by unfold BO;exact Int.ofNat.inj AA)]
   exact AG hc [.tmp 6,.tmp 7] rfl (.inl rfl) (by simp) (by rw[hr];first|exact eR|refine Ap ?_)
  ·have hcd:∀c,c=FL (List.getD ht (Int.toNat a) (ByteArray.empty,[],[],[])).2.1 (List.getD ht (Int.toNat b) (ByteArray.empty,[],[],[])).2.1→c=FL (BO (ht,hf) a) (BO (ht,hf) b):=fun c h=>h
   have hmf:Ba (ht,hf) a b=if EP (FL (BO (ht,hf) a) (BO (ht,hf) b)) 0 ht<0 then (0,false) else (EP (FL (BO (ht,hf) a) (BO (ht,hf) b)) 0 ht,true):=by
    unfold Ba
    rw[if_neg (fun h=>AA (by unfold BO at h;exact congrArg Int.ofNat h))]
   generalize hcg:FL (List.getD ht (Int.toNat a) (ByteArray.empty,[],[],[])).2.1 (List.getD ht (Int.toNat b) (ByteArray.empty,[],[],[])).2.1=c at *
   rw[←hcd c rfl]at hmf
   refine cP 3 hc ?_ ?_
   ·trivial
   ·refine rM hc (oU ht c hl) [(1,.nm 8)] [] ?_ ?_ ?_
    ·first|exact eN|refine eM ?_
    ·first|exact eN|refine eM ?_
    ·rintro _ _ ⟨rfl,rfl⟩
     refine⟨[(8,.nm 1)],.p T3 (EP c 0 ht),[(8,.box 107 false [.p A6 c])],rfl,rfl,?_,?_,rfl,rfl,?_⟩
     ·first|exact eN|refine eM ?_
     ·first|exact eN|refine eM ?_
     ·generalize EP c 0 ht=m at *
      refine rL [0,1,2,3,6,7,8,9,25,31] hc ?_ ?_
      ·trivial
      ·repeat'(first|exact trivial|refine eS rfl ?_|refine AB ?_|refine rX [0,1,2,3,6,7,8,9,25,31] hc ?_ ?_|refine rC ?_ ?_<;>intro AA<;>try(cases AA;done))
       ·rw[if_pos AA]at hmf
        exact AG hc [.tmp 6,.tmp 7] rfl (.inl rfl) (by simp) (by rw[hmf];first|exact eR|refine Ap ?_)
       ·rw[if_neg (Int.not_lt.2 AA)]at hmf
        exact AG hc [.tmp 6,.tmp 7] rfl (.inl rfl) (by simp) (by rw[hmf];first|exact eR|refine Ap ?_)
 ·first|exact eN|refine eM ?_
 ·first|exact eN|refine eM ?_
end
/- Plain: hier.Meet finds the most general common subtype. -/
section
structure lC (l:List (List Int)):Prop where
 wds:∀c∈l,Hu c
 some:∀c∈l,∃i,BK c i=true
 wid:∀c∈l,c.length≤64
 meet:∀a∈l,∀b∈l,(∃i,BK a i=true∧BK b i=true)→∃t∈l,∀i,BK t i=(BK a i&&BK b i)
structure Bs (l:List (List Int)):Prop where
 wds:∀c∈l,Hu c
 some:∀c∈l,∃i,BK c i=true
theorem Vc {l:List (List Int)} {k:Nat} (h:¬k<l.length):l.getD k []=[]:=by
 rw[List.getD_eq_getElem?_getD,List.getElem?_eq_none (by omega)];rfl
theorem Bs.get {l:List (List Int)} (h:Bs l) (k:Nat):Hu (l.getD k []):=by
 by_cases hk:k<l.length
 ·exact h.wds _ (CS hk)
 ·rw[Vc hk]
  intro x hx
  cases hx
theorem A0k {l:List (List Int)} (h:Bs l) (i k:Nat):Bs (GP l i k):=by
 unfold GP
 split
 ·rename_i hc
  rw[Bool.and_eq_true,decide_eq_true_eq]at hc
  refine⟨fun c hc'=>?_,fun c hc'=>?_⟩
  ·rcases List.mem_append.1 hc' with hc'|hc'
   ·exact h.wds c hc'
   ·have:c=FT (l.getD i []) (l.getD k []):=by simpa using hc'
    rw[this]
    exact XS (h.get i) (h.get k)
  ·rcases List.mem_append.1 hc' with hc'|hc'
   ·exact h.some c hc'
   ·have:c=FT (l.getD i []) (l.getD k []):=by simpa using hc'
    rw[this]
    have hne:FT (l.getD i []) (l.getD k [])≠[]:=by
     intro e
     rw[e]at hc
     exact absurd hc.1 (by simp)
    have hz:Hu (Fi .and (l.getD i []) (l.getD k []) (l.getD i []).length):=by
     intro x hx
     unfold Fi at hx
     obtain⟨j,-,rfl⟩:=List.mem_map.1 hx
     rw[Gk,HI (A4 (h.get i) _) (A4 (h.get k) _)]
     have h1:=A4 (h.get i) j
     have h2:((l.getD i []).getD j 0).toNat &&& ((l.getD k []).getD j 0).toNat≤((l.getD i []).getD j 0).toNat:=Nat.and_le_left
     have h3:=h1.1
     have h4:=h1.2
     exact⟨Int.natCast_nonneg _,by omega⟩
    obtain⟨j,hj⟩:=cS hz hne
    exact⟨j,by unfold FT;rw[Mn];exact hj⟩
 ·exact h
theorem lD {i:Nat}:∀ {n k:Nat} {l:List (List Int)},Bs l→Bs (GQ i n k l)
 | 0,_,_,h=>h
 | n+1,k,l,h=>by
  unfold GQ
  split
  ·exact lD (A0k h i k)
  ·exact h
theorem lE:∀ {n i:Nat} {l:List (List Int)},Bs l→Bs (IL n i l)
 | 0,_,_,h=>h
 | n+1,i,l,h=>by
  unfold IL
  split
  ·exact lE (lD h)
  ·exact h
theorem oV {d:List AJ} (h3:BE d=0):Bs (Ad d):=by
 obtain⟨-,h2,-⟩:=A3 h3
 have hnl:=Er d d.length
 rw[List.take_length]at hnl
 have hal:(AR d).length≤4096:=by omega
 refine⟨fun c hc=>?_,fun c hc=>?_⟩
 ·unfold Ad at hc
  obtain⟨s,-,rfl⟩:=List.mem_map.1 hc
  exact(D6 (d:=d) hal s 0).2.1
 ·unfold Ad at hc
  obtain⟨s,hs,rfl⟩:=List.mem_map.1 hc
  obtain⟨j,hj,e⟩:=DZ ByteArray.empty hs
  have hsd:0≤A7 d s:=by
   obtain⟨x,hx,e⟩:=Fk hs
   rw[←e];exact Eu hx
  exact⟨j,(D6 (d:=d) hal s j).1.2 ⟨hj,by rw[e];exact Ms hsd⟩⟩
theorem dC {d:List AJ} (h3:BE d=0) (hl:(A0 (Ad d)).length≤256):lC (A0 (Ad d)):=by
 obtain⟨-,h2,-⟩:=A3 h3
 have hb:Bs (A0 (Ad d)):=lE (oV h3)
 have hm:=XR hl
 refine⟨hb.wds,hb.some,OI (Mu h2),fun a ha b hb2 hi=>?_⟩
 obtain⟨q,hq,rfl⟩:=DZ [] ha
 obtain⟨p,hp,rfl⟩:=DZ [] hb2
 have key:∀q p,q<(A0 (Ad d)).length→p<(A0 (Ad d)).length→Jo (A0 (Ad d)) q p→(∃i,BK ((A0 (Ad d)).getD q []) i=true∧BK ((A0 (Ad d)).getD p []) i=true) →
   ∃t∈A0 (Ad d),∀i,BK t i=(BK ((A0 (Ad d)).getD q []) i&&BK ((A0 (Ad d)).getD p []) i):=by
  intro q p hq hp hmm hi
  have hand:=Ra (hb.get q) (hb.get p)
  rcases hmm with hmm|hmm
  ·obtain⟨i,i1,i2⟩:=hi
   have:=hand i
   rw[hmm,i1,i2]at this
   unfold BK at this
   simp at this
  ·exact⟨_,hmm,hand⟩
 rcases Nat.lt_trichotomy p q with h|h|h
 ·exact key q p hq hp (hm q p h hq) hi
 ·subst h
  exact⟨_,CS hq,fun i=>by rw[Bool.and_self]⟩
 ·obtain⟨t,ht,e⟩:=key p q hp hq (hm p q h hp) (by obtain⟨i,i1,i2⟩:=hi;exact⟨i,i2,i1⟩)
  exact⟨t,ht,fun i=>by rw[e i,Bool.and_comm]⟩
def UQ (h:AN):Prop:=lC (h.1.map fun t=>t.2.1)∧h.1.length≤256
theorem Kp (d:List AJ):UQ (A8 d).1:=by
 unfold A8
 split
 ·exact⟨⟨fun c h=>(by cases h),fun c h=>(by cases h),fun c h=>(by cases h),fun c h=>(by cases h)⟩,by simp⟩
 ·rename_i hv
  have hv:(BJ d).2=0:=Classical.byContradiction hv
  have h5:BH d=0:=by
   unfold BJ at hv
   split at hv
   ·rename_i h;exact absurd hv h
   ·rename_i h;exact Classical.byContradiction h
  obtain⟨hz,-,-⟩:=CK h5
  obtain⟨h3,hlen,-⟩:=Be hz
  have hf:=dC h3 hlen
  have hmem:∀c,c∈((GD d).1.map fun t=>t.2.1)↔c∈A0 (Ad d):=by
   intro c
   have e:((GD d).1.map fun t=>t.2.1)=(Ax d).map fun x=>x.2:=by
    show ((Eg _ _ _).map fun t=>t.2.1)=_
    unfold Eg
    rw[List.map_map]
    apply List.ext_getElem
    ·simp
    ·intro i h1 h2
     simp[List.getD_eq_getElem?_getD,show i<(Ax d).length by simpa using h1]
   rw[e]
   constructor
   ·intro h
    obtain⟨x,hx,rfl⟩:=List.mem_map.1 h
    obtain⟨b,hb,rfl⟩:=DQ.1 hx
    exact hb
   ·intro h
    exact List.mem_map.2 ⟨_,DQ.2 ⟨c,h,rfl⟩,rfl⟩
  refine⟨⟨fun c h=>hf.wds c ((hmem c).1 h),fun c h=>hf.some c ((hmem c).1 h),fun c h=>hf.wid c ((hmem c).1 h),fun a ha b hb hi=>?_⟩,?_⟩
  ·obtain⟨t,ht,e⟩:=hf.meet a ((hmem a).1 ha) b ((hmem b).1 hb) hi
   exact⟨t,(hmem t).2 ht,e⟩
  ·show (Eg _ _ _).length≤256
   rw[Lc,HL]
   exact hlen
/-! Subsumption and meets as sets -/
theorem B3 {h:AN} {t:Int} (g0:0≤t) (g1:t<(h.1.length:Int)):BO h t∈h.1.map fun t=>t.2.1 :=
 List.mem_map.2 ⟨_,AD h.1 Va (k:=t.toNat) (by omega),rfl⟩
theorem S7 {a b:List Int} (ha:Hu a) (hb:Hu b):Kn a b=true↔∀i,BK a i=true→BK b i=true:=by
 constructor
 ·intro h i hi
  by_cases hk:i / 64<a.length
  ·have h1:=List.all_eq_true.1 h (i / 64) (List.mem_range.2 hk)
   rw[beq_iff_eq,Gk]at h1
   exact Qa (A4 ha _) (A4 hb _) h1 (Nat.mod_lt _ (by decide)) hi
  ·exfalso
   unfold BK at hi
   rw[GC hk]at hi
   simp at hi
 ·intro h
  unfold Kn
  rw[List.all_eq_true]
  intro k _
  rw[beq_iff_eq,Gk]
  exact VW ha hb h k
theorem t7 {a b:List Int} (ha:Hu a) (hb:Hu b) (i:Nat):BK (FL a b) i=(BK a i&&BK b i):=by
 unfold FL
 rw[Mn]
 unfold BK
 have:(GE (XX a b) (min a.length b.length) (min a.length b.length)).getD (i / 64) 0=CJ .and .u64 (a.getD (i / 64) 0) (b.getD (i / 64) 0):=by
  by_cases h:i / 64<min a.length b.length
  ·unfold GE
   rw[List.getD_eq_getElem?_getD,List.getElem?_map,List.getElem?_range h]
   show (if i / 64<min a.length b.length then XX a b (i / 64) else 0)=_
   rw[if_pos h]
   rfl
  ·rw[GC (by rw[Vb];exact h),HI (A4 ha _) (A4 hb _)]
   by_cases h1:i / 64<a.length
   ·rw[GC (b:=b) (by omega)]
    simp
   ·rw[GC (b:=a) h1]
    simp
 rw[this,HI (A4 ha _) (A4 hb _),Int.toNat_natCast,Nat.testBit_and]
theorem t8 {a b:List Int} (ha:Hu a) (hb:Hu b):Hu (FL a b):=by
 refine Mo fun x hx=>?_
 unfold GE at hx
 obtain⟨j,-,rfl⟩:=List.mem_map.1 hx
 split
 ·unfold XX
  rw[HI (A4 ha _) (A4 hb _)]
  have h1:=A4 ha j
  have h2:(a.getD j 0).toNat &&& (b.getD j 0).toNat≤(a.getD j 0).toNat:=Nat.and_le_left
  have h3:=h1.1
  have h4:=h1.2
  exact⟨Int.natCast_nonneg _,by omega⟩
 ·exact⟨by decide,by decide⟩
theorem S8 (c:List Int):∀(l:List Iq) (k:Nat),(EP c k l=-1∧∀t∈l,DR t.2.1 c=false)∨((k:Int)≤EP c k l∧EP c k l<(k:Int)+l.length∧DR (l.getD ((EP c k l).toNat-k) Va).2.1 c=true)
 | [],k=>.inl ⟨rfl,fun t ht=>by cases ht⟩
 | x :: l,k=>by
  simp only[EP]
  split
  ·rename_i h
   right
   refine⟨by omega,by simp only[List.length_cons];omega,?_⟩
   rw[show ((k:Int).toNat-k)=0 by omega]
   exact h
  ·rename_i h
   have h:DR x.2.1 c=false:=by simpa using h
   rcases S8 c l (k+1) with ⟨h1,h2⟩|⟨h1,h2,h3⟩
   ·left
    refine⟨h1,fun t ht=>?_⟩
    rcases List.mem_cons.1 ht with rfl|ht
    ·exact h
    ·exact h2 t ht
   ·right
    refine⟨by omega,by simp only[List.length_cons];omega,?_⟩
    rw[show ((EP c (k+1) l).toNat-k)=((EP c (k+1) l).toNat-(k+1))+1 by omega]
    exact h3
def lF (h:AN) (t:Int) (i:Nat):Bool:=BK (BO h t) i
theorem CH {h:AN} (hk:UQ h) {a b:Int} (a0:0≤a) (a1:a<(h.1.length:Int)) (b0:0≤b) (b1:b<(h.1.length:Int)):Cr h a b=true↔∀i,lF h b i=true→lF h a i=true :=
 S7 (hk.1.wds _ (B3 b0 b1)) (hk.1.wds _ (B3 a0 a1))
theorem t9 {h:AN} (hk:UQ h) {a b:Int} (a0:0≤a) (a1:a<(h.1.length:Int)) (b0:0≤b) (b1:b<(h.1.length:Int)) :
  ((Ba h a b).2=true→0≤(Ba h a b).1∧(Ba h a b).1<(h.1.length:Int)∧∀i,lF h (Ba h a b).1 i=(lF h a i&&lF h b i))∧((∃i,lF h a i=true∧lF h b i=true)→(Ba h a b).2=true):=by
 have wa:=hk.1.wds _ (B3 a0 a1)
 have wb:=hk.1.wds _ (B3 b0 b1)
 have hbit:=t7 wa wb
 have hwc:=t8 wa wb
 have heq:∀t∈h.1,DR t.2.1 (FL (BO h a) (BO h b))=true↔∀i,BK t.2.1 i=BK (FL (BO h a) (BO h b)) i:=by
  intro t ht
  have wt:=hk.1.wds t.2.1 (List.mem_map.2 ⟨t,ht,rfl⟩)
  unfold DR
  rw[Bool.and_eq_true,S7 wt hwc,S7 hwc wt]
  constructor
  ·rintro⟨e1,e2⟩ i
   rw[Bool.eq_iff_iff]
   exact⟨e1 i,e2 i⟩
  ·intro e
   exact⟨fun i hi=>by rw[←e i];exact hi,fun i hi=>by rw[e i];exact hi⟩
 unfold Ba
 by_cases hz:(FL (BO h a) (BO h b)).length=0
 ·rw[if_pos hz]
  refine⟨fun e=>(by cases e),?_⟩
  rintro⟨i,i1,i2⟩
  exfalso
  have:=hbit i
  rw[List.eq_nil_of_length_eq_zero hz]at this
  unfold lF at i1 i2
  rw[i1,i2]at this
  unfold BK at this
  simp at this
 ·rw[if_neg hz]
  rcases S8 (FL (BO h a) (BO h b)) h.1 0 with ⟨h1,h2⟩|⟨h1,h2,h3⟩
  ·rw[if_pos (by omega)]
   refine⟨fun e=>(by cases e),fun hi=>?_⟩
   exfalso
   obtain⟨t,ht,e⟩:=hk.1.meet _ (B3 a0 a1) _ (B3 b0 b1) hi
   obtain⟨x,hx,rfl⟩:=List.mem_map.1 ht
   have:=(heq x hx).2 (fun i=>by rw[hbit i];exact e i)
   rw[h2 x hx]at this
   cases this
  ·have h1:0≤EP (FL (BO h a) (BO h b)) 0 h.1:=by omega
   rw[if_neg (by omega)]
   refine⟨fun _=>⟨h1,by simp only;omega,fun i=>?_⟩,fun _=>rfl⟩
   rw[Nat.sub_zero]at h3
   have hm:=AD h.1 Va (k:=(EP (FL (BO h a) (BO h b)) 0 h.1).toNat) (by omega)
   have:=(heq _ hm).1 h3 i
   rw[hbit i]at this
   exact this
theorem HO {h:AN} (hk:UQ h) {a b:Int} (a0:0≤a) (a1:a<(h.1.length:Int)) (b0:0≤b) (b1:b<(h.1.length:Int)) :
  ((Ba h a b).2=true→0≤(Ba h a b).1∧(Ba h a b).1<(h.1.length:Int)∧Cr h a (Ba h a b).1=true∧Cr h b (Ba h a b).1=true) ∧
  ∀x,0≤x→x<(h.1.length:Int)→Cr h a x=true→Cr h b x=true→(Ba h a b).2=true∧Cr h (Ba h a b).1 x=true:=by
 obtain⟨m1,m2⟩:=t9 hk a0 a1 b0 b1
 refine⟨fun e=>?_,fun x x0 x1 hax hbx=>?_⟩
 ·obtain⟨q0,q1,q2⟩:=m1 e
  refine⟨q0,q1,(CH hk a0 a1 q0 q1).2 fun i hi=>?_,(CH hk b0 b1 q0 q1).2 fun i hi=>?_⟩
  ·rw[q2 i,Bool.and_eq_true]at hi;exact hi.1
  ·rw[q2 i,Bool.and_eq_true]at hi;exact hi.2
 ·have ga:=(CH hk a0 a1 x0 x1).1 hax
  have gb:=(CH hk b0 b1 x0 x1).1 hbx
  obtain⟨i,hi⟩:=hk.1.some _ (B3 x0 x1)
  have e:=m2 ⟨i,ga i hi,gb i hi⟩
  obtain⟨q0,q1,q2⟩:=m1 e
  refine⟨e,(CH hk q0 q1 x0 x1).2 fun j hj=>?_⟩
  rw[q2 j,Bool.and_eq_true]
  exact⟨ga j hj,gb j hj⟩
end
/- Functions of grammarlabref07. -/
section
abbrev A45:=Int×List (Int×Int)
def GR (f:List A45):Bool:=decide (f.length≤12)&&f.all fun n=>decide (n.2.length≤12)
def Pc:Ac:={ ins:=[FW],pre:=fun _=>True,out:=fun(f,_)=>[.p .bool (GR f)] }
theorem ZW:Ai Tryz.prog 30 Pc:=by
 refine AP Tryz.func30 (by kernel_rfl) rfl Tryz.ntmps30 (by decide) (by kernel_rfl) (AH []) (fun f sp h=>by simp[lk]at h) ?_
 rintro w0 O0 ⟨l,u⟩ hc hok hpre
 simp only[Pc,AM]
 repeat'(first|exact trivial|refine eS rfl ?_|refine AB ?_|refine rX [0,1,2,3,7,12,22] hc ?_ ?_|refine rC ?_ ?_<;>intro AA<;>try(cases AA;done))
 ·have h1:GR l=false:=by
   have h:¬(List.length l≤12):=by exact eV
   unfold GR
   rw[decide_eq_false h];rfl
  exact AG hc [.tmp 2] rfl (.inl rfl) (by simp) (by rw[h1];first|exact eR|refine Ap ?_)
 ·refine AK (ι:={k:Nat//k≤l.length∧(l.take k).all (fun n=>decide (n.2.length≤12))=true}) (fun k=>⟨[(0,.p FW l),(1,.bp 1 [] 0),(3,.p (.int .i64) (k.1:Int))],[(1,.box 24 true [.p Jm l])]⟩) (fun k=>l.length-k.1) ⟨0,by simp⟩ (AC [(1,.nm 1)] rfl rfl ?_ ?_) (fun k=>?_)
  ·first|exact eN|refine eM ?_
  ·first|exact eN|refine eM ?_
  ·obtain⟨k,hk,hall⟩:=k
   repeat'(first|exact trivial|refine eS rfl ?_|refine AB ?_|refine rX [0,1,2,3,7,12,22] hc ?_ ?_|refine rC ?_ ?_<;>intro AA<;>try(cases AA;done))
   ·exact eV
   ·have h1:GR l=false:=by
     have hk:k<l.length:=by exact eV
     have h:=AD l (0,[]) hk
     unfold GR
     rw[Bool.and_eq_false_iff]
     right
     rw[List.all_eq_false]
     exact⟨_,h,by simp only[decide_eq_true_eq];exact eV⟩
    exact AG hc [.tmp 2] rfl (.inl rfl) (by simp) (by rw[h1];first|exact eR|refine Ap ?_)
   ·exact eV
   ·have hk:k<l.length:=by exact eV
    refine⟨⟨k+1,by exact eV,?_⟩,by simp only;exact eV,AC [(1,.nm 1)] rfl rfl ?_ ?_⟩
    ·have h1:=Ae l (0,[]) hk
     have h2:((l.take (k+1)).all fun n=>decide (n.2.length≤12))=_:=congrArg (fun x=>List.all x fun n=>decide (n.2.length≤12)) h1
     rw[h2,List.all_append,hall]
     simp only[List.all_cons,List.all_nil,Bool.and_true,Bool.true_and,decide_eq_true_eq]
     exact eV
    ·first|exact eN|refine eM ?_
    ·first|exact eN|refine eM ?_
   ·have h1:GR l=true:=by
     have hk:l.take k=l:=List.take_of_length_le (by exact eV)
     rw[hk]at hall
     unfold GR
     rw[hall,decide_eq_true (by exact eV)];rfl
    exact AG hc [.tmp 2] rfl (.inl rfl) (by simp) (by rw[h1];first|exact eR|refine Ap ?_)
end
/- Functions of grammarlabref07: arcs. -/
section
def OQ (n:Int) (seen:List (Int×Int)):List (Int×Int)→Int
 | []=>0
 | x :: r=>if x.1<0∨x.2<0∨n≤x.2 then 2 else if (seen.any fun y=>y.1==x.1)=true then 4 else OQ n (seen++[x]) r
def Ir (l:List (Int×Int)) (n:Int):Int:=OQ n [] l
def lG:Ac:={ ins:=[Ee,T3],pre:=fun _=>True,out:=fun(l,n,_)=>[.p Yp (Ir l n)] }
theorem S9 (n:Int) (l:List (Int×Int)) {k:Nat} (h:k<l.length):OQ n (l.take k) (l.drop k)=if (l.getD k (0,0)).1<0∨(l.getD k (0,0)).2<0∨n≤(l.getD k (0,0)).2 then 2 else if ((l.take k).any fun y=>y.1==(l.getD k (0,0)).1)=true then 4 else OQ n (l.take (k+1)) (l.drop (k+1)):=by
 rw[Ae l (0,0) h,List.drop_eq_getElem_cons h,List.getD_eq_getElem?_getD,List.getElem?_eq_getElem h]
 rfl
theorem UR (l:List (Int×Int)) (f:Int) {k:Nat} (h:k<l.length):((l.take (k+1)).any fun y=>y.1==f)=((l.take k).any (fun y=>y.1==f)||((l.getD k (0,0)).1==f)):=by
 rw[Ae l (0,0) h,List.any_append];simp
theorem A0l:Ai Tryz.prog 78 lG:=by
 refine AP Tryz.func78 (by kernel_rfl) rfl Tryz.ntmps78 (by decide) (by kernel_rfl) (AH []) (fun f sp h=>by simp[lk]at h) ?_
 rintro w0 O0 ⟨l,n,u⟩ hc ⟨⟨hl,-⟩,-⟩ -
 simp only[AO]at hl
 simp only[lG,AM]
 repeat'(first|exact trivial|refine eS rfl ?_|refine AB ?_|refine rX [0,1,4,5,6,10,35,38,51] hc ?_ ?_|refine rC ?_ ?_<;>intro AA<;>try(cases AA;done))
 refine AK (ι:={k:Nat//k≤l.length∧OQ n (l.take k) (l.drop k)=Ir l n}) (fun k=>⟨[(0,.p Ee l),(1,.p T3 n),(5,.p (.int .i64) (k.1:Int))],[]⟩) (fun k=>l.length-k.1) ⟨0,by simp[Ir]⟩ (AC [] rfl rfl ?_ ?_) (fun k=>?_)
 ·first|exact eN|refine eM ?_
 ·first|exact eN|refine eM ?_
 ·obtain⟨k,hk,hall⟩:=k
  repeat'(first|exact trivial|refine eS rfl ?_|refine AB ?_|refine rX [0,1,4,5,6,10,35,38,51] hc ?_ ?_|refine rC ?_ ?_<;>intro AA<;>try(cases AA;done))
  ·exact eV
  ·have hk:k<l.length:=by exact eV
   have h1:Ir l n=2:=by
    rw[←hall,S9 n l hk,if_pos (by rw[←or_assoc];exact AA)]
   exact AG hc [.tmp 4] rfl (.inl rfl) (by simp) (by rw[h1];first|exact eR|refine Ap ?_)
  ·have hk:k<l.length:=by exact eV
   have hn:¬((l.getD k (0,0)).1<0∨(l.getD k (0,0)).2<0∨n≤(l.getD k (0,0)).2):=by
    have:=AA
    generalize l.getD k (0,0)=x at this
    exact eV
   rw[S9 n l hk,if_neg hn]at hall
   refine AK (ι:={j:Nat//j≤k∧((l.take j).any fun y=>y.1==(l.getD k (0,0)).1)=false}) (fun j=>⟨[(0,.p Ee l),(1,.p T3 n),(5,.p (.int .i64) (k:Int)),(6,.p (.int .i64) (j.1:Int))],[]⟩) (fun j=>k-j.1) ⟨0,by simp⟩ (AC [] rfl rfl ?_ ?_) (fun j=>?_)
   ·first|exact eN|refine eM ?_
   ·first|exact eN|refine eM ?_
   ·obtain⟨j,hj,hany⟩:=j
    repeat'(first|exact trivial|refine eS rfl ?_|refine AB ?_|refine rX [0,1,4,5,6,10,35,38,51] hc ?_ ?_|refine rC ?_ ?_<;>intro AA<;>try(cases AA;done))
    ·exact eV
    ·have hjl:j<l.length:=by exact eV
     have h1:Ir l n=4:=by
      have h2:((l.take k).any fun y=>y.1==(l.getD k (0,0)).1)=true:=by
       rw[List.any_eq_true]
       refine⟨l.getD j (0,0),?_,by simpa using AA⟩
       rw[List.getD_eq_getElem?_getD,List.getElem?_eq_getElem hjl]
       exact List.mem_take_iff_getElem.2 ⟨j,by exact eV,rfl⟩
      rw[←hall,if_pos h2]
     exact AG hc [.tmp 4] rfl (.inl rfl) (by simp) (by rw[h1];first|exact eR|refine Ap ?_)
    ·exact eV
    ·have hjl:j<l.length:=by exact eV
     refine⟨⟨j+1,by exact eV,?_⟩,by simp only;exact eV,AC [] rfl rfl ?_ ?_⟩
     ·have h2:=UR l (l.getD k (0,0)).1 hjl
      refine h2.trans ?_
      rw[hany]
      simpa using AA
     ·first|exact eN|refine eM ?_
     ·first|exact eN|refine eM ?_
    ·exact eV
    ·have hjk:j=k:=by exact eV
     subst hjk
     refine⟨⟨j+1,by exact eV,?_⟩,by simp only;exact eV,AC [] rfl rfl ?_ ?_⟩
     ·rw[←hall,if_neg (by rw[hany];simp)]
     ·first|exact eN|refine eM ?_
     ·first|exact eN|refine eM ?_
  ·have h1:Ir l n=0:=by
    have hk:l.length≤k:=by exact eV
    rw[←hall,List.drop_eq_nil_of_le hk];rfl
   exact AG hc [.tmp 4] rfl (.inl rfl) (by simp) (by rw[h1];first|exact eR|refine Ap ?_)
end
/- Functions of grammarlabref07: numbers. -/
section
def TA (n:Int×List (Int×Int)):List Int:=n.1 :: (n.2.length:Int) :: n.2.flatMap fun a=>[a.1,a.2]
def Bf (f:List (Int×List (Int×Int))):List Int:=(f.length:Int) :: f.flatMap TA
def US (l:List (Int×List (Int×Int))) (k:Nat):List Int:=(l.length:Int) :: (l.take k).flatMap TA
def TB (l:List (Int×List (Int×Int))) (k j:Nat):List Int:=US l k++[(l.getD k (0,[])).1,((l.getD k (0,[])).2.length:Int)]++((l.getD k (0,[])).2.take j).flatMap fun a=>[a.1,a.2]
theorem Pd:∀l:List (Int×Int),(l.flatMap fun a=>[a.1,a.2]).length=2*l.length
 | []=>rfl
 | x :: l=>by simp[Pd l];omega
theorem uA (n:Int×List (Int×Int)):(TA n).length=2+2*n.2.length:=by
 have:=Pd n.2
 simp only[TA,List.length_cons];omega
theorem TC:∀l:List (Int×List (Int×Int)),(∀n∈l,n.2.length≤100000)→(l.flatMap TA).length≤l.length*200002
 | [],_=>by simp
 | x :: l,h=>by
  have h1:=h x (by simp)
  have h2:=TC l (fun n hn=>h n (by simp[hn]))
  have h3:=uA x
  simp only[List.flatMap_cons,List.length_append,List.length_cons]
  omega
theorem ZX {l:List (Int×List (Int×Int))} (h:∀n∈l,n.2.length≤100000) {k:Nat} (hk:k≤l.length):(US l k).length≤1+k*200002:=by
 have h1:=TC (l.take k) (fun n hn=>h n (List.mem_of_mem_take hn))
 rw[List.length_take,Nat.min_eq_left hk]at h1
 simp only[US,List.length_cons]
 omega
theorem uB {l:List (Int×List (Int×Int))} (h:∀n∈l,n.2.length≤100000) {k j:Nat} (hk:k<l.length) (hj:j≤(l.getD k (0,[])).2.length):(TB l k j).length≤3+k*200002+2*j:=by
 have h1:=ZX h (Nat.le_of_lt hk)
 have h2:=Pd ((l.getD k (0,[])).2.take j)
 rw[List.length_take,Nat.min_eq_left hj]at h2
 simp only[TB,List.length_append,List.length_cons,List.length_nil]
 omega
theorem Vd {l:List (Int×List (Int×Int))} {k:Nat} (hk:k<l.length):US l (k+1)=TB l k (l.getD k (0,[])).2.length:=by
 unfold US TB
 rw[Ae l (0,[]) hk,List.flatMap_append,List.take_length]
 simp[TA,US]
theorem Ve {l:List (Int×List (Int×Int))} {k j:Nat} (hj:j<(l.getD k (0,[])).2.length):TB l k (j+1)=TB l k j++[((l.getD k (0,[])).2.getD j (0,0)).1,((l.getD k (0,[])).2.getD j (0,0)).2]:=by
 unfold TB
 rw[Ae _ (0,0) hj,List.flatMap_append]
 simp
def OT:Ac:={ ins:=[FW],pre:=fun(f,_)=>f.length≤100000∧∀n∈f,n.2.length≤100000,out:=fun(f,_)=>[.p Bx (Bf f)] }
theorem dD:Ai Tryz.prog 81 OT:=by
 refine AP Tryz.func81 (by kernel_rfl) rfl Tryz.ntmps81 (by decide) (by kernel_rfl) (AH []) AI ?_
 rintro w0 O0 ⟨l,u⟩ hc ⟨hl,-⟩ ⟨hp1,hp2⟩
 simp only[OT,AM]
 repeat'(first|exact trivial|refine eS rfl ?_|refine AB ?_|refine rX [0,1,2,3,4,5,6,15,38] hc ?_ ?_|refine rC ?_ ?_<;>intro AA<;>try(cases AA;done))
 refine AK (ι:={k:Nat//k≤l.length}) (fun k=>⟨[(0,.p FW l),(1,.bp 1 [] 0),(3,.sr 10 T3 0 (US l k.1).length),(4,.p (.int .i64) (k.1:Int))],[(1,.box 24 true [.p Jm l]),(10,.arr 3 T3 (US l k.1))]⟩) (fun k=>l.length-k.1) ⟨0,by simp⟩ (AC [(1,.nm 1),(10,.nm 10)] rfl rfl ?_ ?_) (fun k=>?_)
 ·first|exact eN|refine eM ?_
  rfl
 ·first|exact eN|refine eM ?_
  rfl
 ·obtain⟨k,hk⟩:=k
  have hn1:=ZX hp2 hk
  repeat'(first|exact trivial|refine eS rfl ?_|refine AB ?_|refine rX [0,1,2,3,4,5,6,15,38] hc ?_ ?_|refine rC ?_ ?_<;>intro AA<;>try(cases AA;done))
  ·exact eV
  ·refine⟨by exact eV,?_⟩
   simp only[AO];exact eV
  ·have hkl:k<l.length:=by exact eV
   have hp3:=hp2 _ (AD l (0,[]) hkl)
   refine AK (ι:={j:Nat//j≤(l.getD k (0,[])).2.length}) (fun j=>⟨[(0,.p FW l),(1,.bp 1 [] 0),(3,.sr 10 T3 0 (TB l k j.1).length),(4,.p (.int .i64) (k:Int)),(5,.p Ee (l.getD k (0,[])).2),(6,.p (.int .i64) (j.1:Int))],[(1,.box 24 true [.p Jm l]),(10,.arr 3 T3 (TB l k j.1))]⟩) (fun j=>(l.getD k (0,[])).2.length-j.1) ⟨0,by simp⟩ (AC [(1,.nm 1),(10,.nm 10)] rfl rfl ?_ ?_) (fun j=>?_)
   ·first|exact eN|refine eM ?_
    simp[TB]
   ·first|exact eN|refine eM ?_
    simp[TB]
   ·obtain⟨j,hj⟩:=j
    have hn2:=uB hp2 hkl hj
    repeat'(first|exact trivial|refine eS rfl ?_|refine AB ?_|refine rX [0,1,2,3,4,5,6,15,38] hc ?_ ?_|refine rC ?_ ?_<;>intro AA<;>try(cases AA;done))
    ·refine⟨by exact eV,by exact eV,?_⟩
     simp only[AO];exact eV
    ·exact eV
    ·have hjl:j<(l.getD k (0,[])).2.length:=by exact eV
     refine⟨⟨j+1,by exact eV⟩,by simp only;exact eV,AC [(1,.nm 1),(10,.nm 10)] rfl rfl ?_ ?_⟩
     ·first|exact eN|refine eM ?_
      exact(Ve hjl).symm
     ·first|exact eN|refine eM ?_
      have:=congrArg List.length (Ve (l:=l) hjl)
      rw[List.length_append]at this
      exact this.symm
    ·exact eV
    ·have hjk:j=(l.getD k (0,[])).2.length:=by exact eV
     subst hjk
     refine⟨⟨k+1,by exact eV⟩,by simp only;exact eV,AC [(1,.nm 1),(10,.nm 10)] rfl rfl ?_ ?_⟩
     ·first|exact eN|refine eM ?_
      exact(Vd hkl).symm
     ·first|exact eN|refine eM ?_
      exact congrArg List.length (Vd hkl).symm
  ·have hk:l.take k=l:=List.take_of_length_le (by exact eV)
   have h1:US l k=Bf l:=by unfold US Bf;rw[hk]
   exact AG hc [.tmp 2] rfl (.inl rfl) (by simp) (by first|exact eR|refine Ap ?_;exact h1)
end
/- Functions of grammarlabref07: Compare, Equal. -/
section
attribute [local go_sem] OT
def JT:List Int→List Int→Int
 | x :: xs,y :: ys=>if x<y then -1 else if y<x then 1 else JT xs ys
 | _,_=>0
theorem Pe (xs ys:List Int) {k:Nat} (h1:k<xs.length) (h2:k<ys.length):JT (xs.drop k) (ys.drop k)=if xs.getD k 0<ys.getD k 0 then -1 else if ys.getD k 0<xs.getD k 0 then 1 else JT (xs.drop (k+1)) (ys.drop (k+1)):=by
 rw[List.drop_eq_getElem_cons h1,List.drop_eq_getElem_cons h2,List.getD_eq_getElem?_getD,List.getElem?_eq_getElem h1,List.getD_eq_getElem?_getD,List.getElem?_eq_getElem h2]
 rfl
theorem uC (xs ys:List Int) {k:Nat} (h:xs.length≤k∨ys.length≤k):JT (xs.drop k) (ys.drop k)=0:=by
 rcases h with h|h
 ·rw[List.drop_eq_nil_of_le h];simp[JT]
 ·rw[List.drop_eq_nil_of_le h];simp[JT]
def CU (a b:List (Int×List (Int×Int))):Int:=JT (Bf a) (Bf b)
def HP (f:List (Int×List (Int×Int))):Prop:=f.length≤100000∧∀n∈f,n.2.length≤100000
def OU:Ac:={ ins:=[FW,FW],pre:=fun(a,b,_)=>HP a∧HP b,out:=fun(a,b,_)=>[.p T3 (CU a b)] }
theorem OV {f:List (Int×List (Int×Int))} (h:HP f):(Bf f).length≤1+f.length*200002:=by
 have:=TC f h.2
 simp only[Bf,List.length_cons];omega
theorem dE:Ai Tryz.prog 55 OU:=by
 refine AP Tryz.func55 (by kernel_rfl) rfl Tryz.ntmps55 (by decide) (by kernel_rfl) (AH [(81,OT)]) (AE dD AI) ?_
 rintro w0 O0 ⟨a,b,u⟩ hc-⟨⟨ha1,ha2⟩,⟨hb1,hb2⟩⟩
 have hla:=OV ⟨ha1,ha2⟩
 have hlb:=OV ⟨hb1,hb2⟩
 simp only[OU,AM]
 repeat'(first|exact trivial|refine eS rfl ?_|refine AB ?_|refine rX [0,1,2,3,4,5,6,7,21,32,41] hc ?_ ?_|refine rC ?_ ?_<;>intro AA<;>try(cases AA;done))
 ·exact⟨ha1,ha2⟩
 ·exact⟨hb1,hb2⟩
 ·refine AK (ι:={k:Nat//JT ((Bf a).drop k) ((Bf b).drop k)=CU a b}) (fun k=>⟨[(5,.p Bx (Bf a)),(6,.p Bx (Bf b)),(7,.p (.int .i64) (k.1:Int))],[]⟩) (fun k=>(Bf a).length-k.1) ⟨0,by simp[CU]⟩ (AC [] rfl rfl ?_ ?_) (fun k=>?_)
  ·first|exact eN|refine eM ?_
  ·first|exact eN|refine eM ?_
  ·obtain⟨k,hk⟩:=k
   repeat'(first|exact trivial|refine eS rfl ?_|refine AB ?_|refine rX [0,1,2,3,4,5,6,7,21,32,41] hc ?_ ?_|refine rC ?_ ?_<;>intro AA<;>try(cases AA;done))
   ·exact eV
   ·obtain⟨h1,h2⟩:k<(Bf a).length∧k<(Bf b).length:=by exact eV
    have h3:CU a b=-1:=by rw[←hk,Pe _ _ h1 h2,if_pos AA]
    exact AG hc [.tmp 4] rfl (.inl rfl) (by simp) (by rw[h3];first|exact eR|refine Ap ?_)
   ·exact eV
   ·obtain⟨h1,h2⟩:k<(Bf a).length∧k<(Bf b).length:=by exact eV
    have h3:CU a b=1:=by rw[←hk,Pe _ _ h1 h2,if_neg (by exact eV),if_pos AA]
    exact AG hc [.tmp 4] rfl (.inl rfl) (by simp) (by rw[h3];first|exact eR|refine Ap ?_)
   ·exact eV
   ·obtain⟨h1,h2⟩:k<(Bf a).length∧k<(Bf b).length:=by exact eV
    refine⟨⟨k+1,?_⟩,by simp only;exact eV,AC [] rfl rfl ?_ ?_⟩
    ·rw[←hk,Pe _ _ h1 h2,if_neg (by exact eV),if_neg (by exact eV)]
    ·first|exact eN|refine eM ?_
    ·first|exact eN|refine eM ?_
   ·have h3:CU a b=0:=by
     rw[←hk]
     apply uC
     by_cases h:k<(Bf a).length
     ·right;have:=AA (by exact eV);exact eV
     ·left;exact eV
    exact AG hc [.tmp 4] rfl (.inl rfl) (by simp) (by rw[h3];first|exact eR|refine Ap ?_)
def Mx:Ac:={ ins:=[FW,FW],pre:=fun(a,b,_)=>HP a∧HP b,out:=fun(a,b,_)=>[.p .bool (CU a b==0)] }
end
/- Functions of grammarlabref07: Equal, form. -/
section
attribute [local go_sem] OU lG
theorem ZY:Ai Tryz.prog 32 Mx:=by
 refine AP Tryz.func32 (by kernel_rfl) rfl Tryz.ntmps32 (by decide) (by kernel_rfl) (AH [(55,OU)]) (AE dE AI) ?_
 rintro w0 O0 ⟨a,b,u⟩ hc-hpre
 simp only[Mx,AM]
 repeat'(first|exact trivial|refine eS rfl ?_|refine AB ?_|refine rX [0,1,2,3,4] hc ?_ ?_|refine rC ?_ ?_<;>intro AA<;>try(cases AA;done))
 ·exact hpre
 ·exact AG hc [.tmp 4] rfl (.inl rfl) (by simp) (by first|exact eR|refine Ap ?_)
def Jq (m:Int):List (Int×List (Int×Int))→Int
 | []=>0
 | n :: r=>if n.1<0 then 2 else if Ir n.2 m≠0 then Ir n.2 m else Jq m r
def D7 (f:List (Int×List (Int×Int))):Int:=if f.length=0 then 1 else if 4096<f.length then 7 else Jq f.length f
def lH:Ac:={ ins:=[FW],pre:=fun _=>True,out:=fun(f,_)=>[.p Yp (D7 f)] }
theorem My (m:Int) (l:List (Int×List (Int×Int))) {k:Nat} (h:k<l.length):Jq m (l.drop k)=if (l.getD k (0,[])).1<0 then 2 else if Ir (l.getD k (0,[])).2 m≠0 then Ir (l.getD k (0,[])).2 m else Jq m (l.drop (k+1)):=by
 rw[List.drop_eq_getElem_cons h,List.getD_eq_getElem?_getD,List.getElem?_eq_getElem h]
 rfl
theorem A0m:Ai Tryz.prog 53 lH:=by
 refine AP Tryz.func53 (by kernel_rfl) rfl Tryz.ntmps53 (by decide) (by kernel_rfl) (AH [(78,lG)]) (AE A0l AI) ?_
 rintro w0 O0 ⟨l,u⟩ hc ⟨hl,-⟩ -
 simp only[lH,AM]
 repeat'(first|exact trivial|refine eS rfl ?_|refine AB ?_|refine rX [0,1,2,3,4,8,12,17,26,38] hc ?_ ?_|refine rC ?_ ?_<;>intro AA<;>try(cases AA;done))
 ·have h1:D7 l=1:=by
   have h:l.length=0:=by exact eV
   unfold D7
   rw[if_pos h]
  exact AG hc [.tmp 2] rfl (.inl rfl) (by simp) (by rw[h1];first|exact eR|refine Ap ?_)
 ·have h1:D7 l=7:=by
   have h:¬l.length=0:=by exact eV
   have h':4096<l.length:=by exact eV
   unfold D7
   rw[if_neg h,if_pos h']
  exact AG hc [.tmp 2] rfl (.inl rfl) (by simp) (by rw[h1];first|exact eR|refine Ap ?_)
 ·have h1:D7 l=Jq l.length l:=by
   have h:¬l.length=0:=by exact eV
   have h':¬4096<l.length:=by exact eV
   unfold D7
   rw[if_neg h,if_neg h']
  refine AK (ι:={k:Nat//k≤l.length∧Jq l.length (l.drop k)=D7 l}) (fun k=>⟨[(1,.bp 1 [] 0),(3,.p (.int .i64) (k.1:Int))],[(1,.box 24 true [.p Jm l])]⟩) (fun k=>l.length-k.1) ⟨0,by simp[h1]⟩ (AC [(1,.nm 1)] rfl rfl ?_ ?_) (fun k=>?_)
  ·first|exact eN|refine eM ?_
  ·first|exact eN|refine eM ?_
  ·obtain⟨k,hk,hf⟩:=k
   repeat'(first|exact trivial|refine eS rfl ?_|refine AB ?_|refine rX [0,1,2,3,4,8,12,17,26,38] hc ?_ ?_|refine rC ?_ ?_<;>intro AA<;>try(cases AA;done))
   ·exact eV
   ·have hkl:k<l.length:=by exact eV
    have h2:D7 l=2:=by rw[←hf,My _ _ hkl,if_pos AA]
    exact AG hc [.tmp 2] rfl (.inl rfl) (by simp) (by rw[h2];first|exact eR|refine Ap ?_)
   ·exact eV
   ·have hkl:k<l.length:=by exact eV
    have h2:D7 l=Ir (l.getD k (0,[])).2 l.length:=by rw[←hf,My _ _ hkl,if_neg (by exact eV),if_pos AA]
    exact AG hc [.tmp 2] rfl (.inl rfl) (by simp) (by rw[h2];first|exact eR|refine Ap ?_)
   ·exact eV
   ·have hkl:k<l.length:=by exact eV
    refine⟨⟨k+1,by exact eV,?_⟩,by simp only;exact eV,AC [(1,.nm 1)] rfl rfl ?_ ?_⟩
    ·rw[←hf,My _ _ hkl,if_neg (by exact eV),if_neg (by simpa using AA)]
    ·first|exact eN|refine eM ?_
    ·first|exact eN|refine eM ?_
   ·have h2:D7 l=0:=by
     have hk:l.length≤k:=by exact eV
     rw[←hf,List.drop_eq_nil_of_le hk];rfl
    exact AG hc [.tmp 2] rfl (.inl rfl) (by simp) (by rw[h2];first|exact eR|refine Ap ?_)
end
/- The contract of functions of the program: Sorted. -/
section
def Jx (x:Int×Int) (s:List (Int×Int)):Nat→Nat
 | 0=>0
 | n+1=>if x.1<(s.getD n (0,0)).1 then Jx x s n else n+1
def Pf (s:List (Int×Int)) (x:Int×Int):List (Int×Int):=s.take (Jx x s s.length)++[x]++s.drop (Jx x s s.length)
def Ay (l:List (Int×Int)):List (Int×Int):=l.foldl Pf []
theorem XZ (x:Int×Int) (s:List (Int×Int)):∀n,Jx x s n≤n
 | 0=>Nat.le_refl _
 | n+1=>by
  unfold Jx
  have:=XZ x s n
  split<;>omega
theorem uD (s:List (Int×Int)) (x:Int×Int):(Pf s x).length=s.length+1:=by
 have:=XZ x s s.length
 simp[Pf];omega
theorem JU (l:List (Int×Int)) (x:Int×Int):Ay (l++[x])=Pf (Ay l) x:=by simp[Ay]
theorem Kq:∀(l s:List (Int×Int)),(l.foldl Pf s).length=s.length+l.length
 | [],s=>by simp
 | x :: l,s=>by simp[Kq l,uD];omega
theorem Hv (l:List (Int×Int)):(Ay l).length=l.length:=by simp[Ay,Kq]
def JV:Ac:={ ins:=[Ee],pre:=fun(l,_)=>l.length≤1000000,out:=fun(l,_)=>[.own 63 aO (Ay l)] }
theorem Vf:Ai Tryz.prog 80 JV:=by
 refine AP Tryz.func80 (by kernel_rfl) rfl Tryz.ntmps80 (by decide) (by kernel_rfl) (AH []) AI ?_
 rintro w0 O0 ⟨l,u⟩ hc hok hpre
 simp only[JV]at hpre
 simp only[JV,AM]
 repeat'(first|exact trivial|refine eS rfl ?_|refine AB ?_|refine rX [0,2,3,4,5,6,10,30] hc ?_ ?_|refine rC ?_ ?_<;>intro AA<;>try(cases AA;done))
 refine AK (ι:={p:Nat//p≤l.length}) (fun k=>⟨[(0,.p Ee l),(3,.sr 10 aO 0 (Ay (l.take k.1)).length),(4,.p (.int .i64) (k.1:Int))],[(10,.arr 63 aO (Ay (l.take k.1)))]⟩) (fun k=>l.length-k.1) ⟨0,by omega⟩ (AC [(10,.nil)] rfl rfl ?_ ?_) (fun k=>?_)
 ·first|exact eN|refine eM ?_
  rfl
 ·first|exact eN|refine eM ?_
  rfl
 ·obtain⟨k,hI⟩:=k
  have hlen:(Ay (l.take k)).length=k:=by rw[Hv,List.length_take];exact Nat.min_eq_left hI
  repeat'(first|exact trivial|refine eS rfl ?_|refine AB ?_|refine rX [0,2,3,4,5,6,10,30] hc ?_ ?_|refine rC ?_ ?_<;>intro AA<;>try(cases AA;done))
  ·refine AK (ι:={q:Nat//q≤(Ay (l.take k)).length∧Jx (l.getD k (0,0)) (Ay (l.take k)) q=Jx (l.getD k (0,0)) (Ay (l.take k)) (Ay (l.take k)).length}) (fun q=>⟨[(0,.p Ee l),(3,.sr 10 aO 0 (Ay (l.take k)).length),(4,.p (.int .i64) (k:Int)),(5,.p (.int .i64) (q.1:Int))],[(10,.arr 63 aO (Ay (l.take k)))]⟩) (fun q=>q.1) ⟨(Ay (l.take k)).length,by simp⟩ (AC [(10,.nm 10)] rfl rfl ?_ ?_) (fun q=>?_)
   ·first|exact eN|refine eM ?_
   ·first|exact eN|refine eM ?_
   ·obtain⟨q,hq,hp⟩:=q
    have hkl:k<l.length:=by omega
    have e1:=l.length_take_le k
    have e2:(List.take q (Ay (List.take k l))).length=q:=by rw[List.length_take];exact Nat.min_eq_left hq
    repeat'(first|exact trivial|refine eS rfl ?_|refine AB ?_|refine rX [0,2,3,4,5,6,10,30] hc ?_ ?_|refine rC ?_ ?_<;>intro AA<;>try(cases AA;done))
    ·exact eV
    ·exact eV
    ·obtain⟨h1,h2⟩:=AA
     obtain⟨q,rfl⟩:∃r,q=r+1:=⟨q-1,by omega⟩
     have h3:((q+1:Nat):Int)-1=(q:Int):=by omega
     refine⟨⟨q,by omega,?_⟩,Nat.lt_succ_self q,AC [(10,.nm 10)] rfl rfl ?_ ?_⟩
     ·rw[←hp]
      simp only[Jx]
      rw[h3,Int.toNat_natCast]at h2
      rw[if_pos h2]
     ·first|exact eN|refine eM ?_
     ·first|exact eN|refine eM ?_
      show (q:Int)+1-1=q
      omega
    ·refine⟨by exact eV,?_⟩
     rw[e2];unfold AO;omega
    ·refine⟨by exact eV,?_⟩
     rw[e2];simp only[AO];omega
    ·refine⟨by exact eV,?_⟩
     rw[e2];simp only[AO,List.length_drop];omega
    ·exact eV
    ·have hpos:Jx (l.getD k (0,0)) (Ay (l.take k)) q=q:=by
      cases q with
      | zero=>rfl
      | succ q =>
       have h3:((q+1:Nat):Int)-1=(q:Int):=by omega
       have:=AA (by omega)
       rw[h3,Int.toNat_natCast]at this
       simp only[Jx]
       rw[if_neg (by omega)]
     have h1:=Ae l (0,0) hkl
     have h2:Ay (l.take (k+1))=_:=(congrArg Ay h1).trans (JU _ _)
     unfold Pf at h2
     rw[←hp,hpos]at h2
     refine⟨⟨k+1,by exact eV⟩,by simp only;exact eV,AC [(10,.nm 37)] rfl rfl ?_ ?_⟩
     ·first|exact eN|refine eM ?_
      exact h2.symm
     ·first|exact eN|refine eM ?_
      have h4:=congrArg List.length h2
      rw[List.length_append,List.length_append]at h4
      exact h4.symm
  ·have hk:l.take k=l:=List.take_of_length_le (by exact eV)
   refine MW hc (.inl rfl) (rv:=.tmp 2) rfl ?_
   simp only[Jj,IC,Gu,go_sem,Nat.reduceEqDiff,reduceCtorEq,Nat.reduceAdd,Nat.reduceSub,Nat.reduceMul,Nat.reduceLeDiff,Nat.reduceLT,Int.reduceLE,Int.reduceToNat,Int.reduceNeg,↓reduceIte]
   rw[hk]
   first|rfl|exact⟨rfl,rfl⟩|exact⟨rfl,rfl,rfl⟩
end
/- Functions of grammarlabref07: visit. -/
section
attribute [local go_sem] JV
abbrev AF:=Int×List (Int×Int)
def D8 (f:List AF):Nat→List Int×List Int→Int→List Int×List Int
 | 0,s,_=>s
 | k+1,s,n=>(Ay (f.getD n.toNat (0,[])).2).foldl (fun s a=>if s.1.getD a.2.toNat 0<0 then D8 f k s a.2 else s) (s.1.set n.toNat (s.2.length:Int),s.2++[n])
def Jy (l:List Int):Nat:=l.countP (fun x=>decide (x<0))
def AY (f:List AF):Prop:=f.length≤100000∧∀x∈f,x.2.length≤100000∧∀a∈x.2,0≤a.2∧a.2<(f.length:Int)
def RF (f:List AF) (s:List Int×List Int):Prop:=s.1.length=f.length∧s.2.length+Jy s.1≤f.length
theorem uE {l:List Int} {n:Nat} {v:Int} (hn:n<l.length) (hneg:l.getD n 0<0) (hv:0≤v):Jy (l.set n v)+1=Jy l:=by
 induction l generalizing n with
 | nil=>simp at hn
 | cons x r ih =>
  cases n with
  | zero =>
   have hx:x<0:=by simpa using hneg
   have:¬v<0:=by omega
   simp[Jy,List.countP_cons,hx,this]
  | succ n =>
   have h1:=ih (n:=n) (by simpa using hn) (by simpa using hneg)
   simp only[Jy,List.set_cons_succ,List.countP_cons]at h1 ⊢
   omega
theorem dF {f:List AF} {s:List Int×List Int} {n:Int} (h:RF f s) (hn0:0≤n) (hn:n<f.length) (hneg:s.1.getD n.toNat 0<0) :
  RF f (s.1.set n.toNat (s.2.length:Int),s.2++[n])∧Jy (s.1.set n.toNat (s.2.length:Int))+1=Jy s.1:=by
 obtain⟨h1,h2⟩:=h
 have h3:=uE (l:=s.1) (n:=n.toNat) (v:=(s.2.length:Int)) (by omega) hneg (by omega)
 refine⟨⟨by simpa using h1,?_⟩,h3⟩
 simp only[List.length_append,List.length_singleton]
 omega
theorem oW (s:List (Int×Int)) (x:Int×Int):(Pf s x).Perm (x :: s):=by
 unfold Pf
 refine(List.perm_append_comm.append_right _).trans ?_
 simp
theorem Jr:∀(l s:List (Int×Int)),(l.foldl Pf s).Perm (l++s)
 | [],s=>List.Perm.refl _
 | x :: l,s=>by
  refine(Jr l (Pf s x)).trans ?_
  refine(List.Perm.append_left l (oW s x)).trans ?_
  exact List.perm_middle
theorem OW (l:List (Int×Int)):(Ay l).Perm l:=by
 have:=Jr l []
 simpa[Ay] using this
theorem HR {f:List AF} (hf:AY f) (n:Int):List.length (f.getD n.toNat (0,[])).2≤100000:=by
 by_cases h:n.toNat<f.length
 ·have hm:f.getD n.toNat (0,[])∈f:=by
   rw[List.getD_eq_getElem?_getD,List.getElem?_eq_getElem h];exact List.getElem_mem h
  exact(hf.2 _ hm).1
 ·rw[List.getD_eq_getElem?_getD,List.getElem?_eq_none (by omega)]
  simp
theorem Rc {f:List AF} (hf:AY f) {n:Int} {a:Int×Int} (ha:a∈Ay (f.getD n.toNat (0,[])).2):0≤a.2∧a.2<f.length:=by
 have ha:=(OW _).mem_iff.1 ha
 by_cases h:n.toNat<f.length
 ·have hm:f.getD n.toNat (0,[])∈f:=by
   rw[List.getD_eq_getElem?_getD,List.getElem?_eq_getElem h];exact List.getElem_mem h
  exact(hf.2 _ hm).2 a ha
 ·rw[List.getD_eq_getElem?_getD,List.getElem?_eq_none (by omega)]at ha
  simp at ha
def D9 (f:List AF) (k:Nat) (s:List Int×List Int) (a:Int×Int):List Int×List Int:=if s.1.getD a.2.toNat 0<0 then D8 f k s a.2 else s
theorem Hw (f:List AF) (k:Nat) (s:List Int×List Int) (n:Int):D8 f (k+1) s n=(Ay (f.getD n.toNat (0,[])).2).foldl (D9 f k) (s.1.set n.toNat (s.2.length:Int),s.2++[n]):=rfl
theorem Rd {f:List AF} {k:Nat} (hv:∀(s:List Int×List Int) (n:Int),RF f s→0≤n→n<f.length→s.1.getD n.toNat 0<0→RF f (D8 f k s n)∧Jy (D8 f k s n).1≤Jy s.1) :
  ∀(l:List (Int×Int)) (t:List Int×List Int),(∀a∈l,0≤a.2∧a.2<(f.length:Int))→RF f t→RF f (l.foldl (D9 f k) t)∧Jy (l.foldl (D9 f k) t).1≤Jy t.1
 | [],t,_,ht=>⟨ht,Nat.le_refl _⟩
 | a :: l,t,hl,ht=>by
  simp only[List.foldl_cons]
  by_cases hc:t.1.getD a.2.toNat 0<0
  ·obtain⟨g1,g2⟩:=hv t a.2 ht (hl a (by simp)).1 (hl a (by simp)).2 hc
   have e:D9 f k t a=D8 f k t a.2:=if_pos hc
   rw[e]
   obtain⟨g3,g4⟩:=Rd hv l _ (fun b hb=>hl b (by simp[hb])) g1
   exact⟨g3,Nat.le_trans g4 g2⟩
  ·have e:D9 f k t a=t:=if_neg hc
   rw[e]
   exact Rd hv l t (fun b hb=>hl b (by simp[hb])) ht
theorem Pg {f:List AF} (hf:AY f):∀(k:Nat) (s:List Int×List Int) (n:Int),RF f s→0≤n→n<f.length→s.1.getD n.toNat 0<0→RF f (D8 f k s n)∧Jy (D8 f k s n).1≤Jy s.1
 | 0,s,n,h,_,_,_=>⟨h,Nat.le_refl _⟩
 | k+1,s,n,h,h0,h1,h2=>by
  obtain⟨h3,h4⟩:=dF h h0 h1 h2
  obtain⟨g1,g2⟩:=Rd (Pg hf k) _ _ (fun a ha=>Rc hf ha) h3
  rw[Hw]
  exact⟨g1,by simp only at g2 h4;omega⟩
theorem Ld {α β:Type} (g:β→α→β) (l:List α) (d:α) (t:β) {i:Nat} (hi:i<l.length):(l.take (i+1)).foldl g t=g ((l.take i).foldl g t) (l.getD i d):=by
 rw[Ae l d hi,List.foldl_append];rfl
def Js (f:List AF) (s:List Int×List Int):List (Nat×Obj):=[(1,.box 140 true [.p FW f,.sr 2 T3 0 s.1.length,.sr 3 T3 0 s.2.length]),(2,.arr 3 T3 s.1),(3,.arr 3 T3 s.2)]
theorem uF (f:List AF) (hf:AY f):∀(k:Nat) (s:List Int×List Int) (n:Int),RF f s→0≤n→n<f.length→s.1.getD n.toNat 0<0→Jy s.1≤k →
  Ca Tryz.prog 79 [.bp 1 [] 0,.p T3 n] (Js f s) [1] (fun res objs'=>res=.raw (.tuple #[])∧objs'=Js f (D8 f k s n)):=by
 intro k
 induction k with
 | zero =>
  intro s n h0 h1 h2 h3 h4
  obtain⟨_,h5⟩:=dF h0 h1 h2 h3
  omega
 | succ k ih =>
  intro s n htr hn0 hn1 hneg hk
  obtain⟨num,ord⟩:=s
  obtain⟨htr',hcnt⟩:=dF htr hn0 hn1 hneg
  obtain⟨hl1,hl2⟩:=htr
  simp only at hl1 hl2 hneg htr' hcnt hk
  refine DJ Tryz.func79 (by kernel_rfl) rfl Tryz.ntmps79 (by simp only[List.length_cons,List.length_nil];omega) (by kernel_rfl) rfl rfl (AH [(80,JV)]) (AE Vf AI) ?_
  intro w0 K O0 ρ0 hc hok1 hok2
  simp only[Js,BU]
  repeat'(first|exact trivial|refine eS rfl ?_|refine AB ?_|refine rX [0,1,4,5,40,54] hc ?_ ?_|refine rC ?_ ?_<;>intro AA<;>try(cases AA;done))
  ·exact eV
  ·have:=hf.1
   simp only[AO];omega
  ·have hm:=HR hf n
   exact⟨⟨hn0,hn1⟩,Nat.le_trans hm (by omega)⟩
  ·have harcs:=fun a (ha:a∈Ay (f.getD n.toNat (0,[])).2)=>Rc hf ha
   have hLlen:(Ay (f.getD n.toNat (0,[])).2).length≤100000:=by rw[Hv];exact HR hf n
   generalize hL:Ay (f.getD n.toNat (0,[])).2=L at harcs hLlen
   generalize hs1:(num.set n.toNat (ord.length:Int),ord++[n])=s1 at htr'
   have hfold:∀i,RF f ((L.take i).foldl (D9 f k) s1)∧Jy ((L.take i).foldl (D9 f k) s1).1≤Jy s1.1:=fun i=>Rd (Pg hf k) _ _ (fun a ha=>harcs a (List.mem_of_mem_take ha)) htr'
   have hn1:num.set n.toNat (ord.length:Int)=s1.1:=by rw[←hs1]
   have ho1:ord++[n]=s1.2:=by rw[←hs1]
   rw[hn1]at hcnt
   refine AK (ι:={i:Nat//i≤L.length}) (fun i=>⟨[(0,.bp 1 [] 0),(1,.p T3 n),(4,.p Ee L),(5,.p (.int .i64) (i.1:Int))],Js f ((L.take i.1).foldl (D9 f k) s1)⟩) (fun i=>L.length-i.1) ⟨0,by omega⟩ (A4F [36] (AC [(1,.nm 1),(2,.nm 2),(3,.nm 3)] rfl rfl ?_ ?_)) (fun i=>?_)
   ·simp only[Js]
    first|exact eN|refine eM ?_
    simp only[List.foldl_nil]
    rw[←hs1]
    simp
   ·first|exact eN|refine eM ?_
   ·obtain⟨i,hi⟩:=i
    obtain⟨hti,hci⟩:=hfold i
    have hnext:=fun(h:i<L.length)=>Ld (D9 f k) L (0,0) s1 h
    generalize hsi:(L.take i).foldl (D9 f k) s1=si at hti hci hnext
    simp only[Js]
    repeat'(first|exact trivial|refine eS rfl ?_|refine AB ?_|refine rX [0,1,4,5,40,54] hc ?_ ?_|refine rC ?_ ?_<;>intro AA<;>try(cases AA;done))
    ·have hiL:i<L.length:=by exact eV
     have:=harcs _ (AD L (0,0) hiL)
     obtain⟨h1,h2⟩:=hti
     refine⟨by exact eV,this.1,?_⟩
     rw[h1]
     exact this.2
    ·have hiL:i<L.length:=by exact eV
     have hr:=harcs _ (AD L (0,0) hiL)
     refine cP 6 hc ?_ ?_
     ·exact eV
     ·refine rM hc (ih si (L.getD i (0,0)).2 hti hr.1 hr.2 (by simpa using AA) (by omega)) [(1,.nm 1),(2,.nm 2),(3,.nm 3)] [2,3] ?_ ?_ ?_
      ·first|exact eN|refine eM ?_
      ·simp only[Js]
       first|exact eN|refine eM ?_
      ·rintro _ _ ⟨rfl,rfl⟩
       refine⟨[(1,.nm 1),(2,.nm 2),(3,.nm 3)],.raw (.tuple #[]),Js f (D8 f k si (L.getD i (0,0)).2),rfl,rfl,?_,?_,rfl,rfl,EJ ?_⟩
       ·simp only[Js]
        first|exact eN|refine eM ?_
       ·first|exact eN|refine eM ?_
       ·repeat'(first|exact trivial|refine eS rfl ?_|refine AB ?_|refine rX [0,1,4,5,40,54] hc ?_ ?_|refine rC ?_ ?_<;>intro AA<;>try(cases AA;done))
        ·exact eV
        ·have e:D9 f k si (L.getD i (0,0))=D8 f k si (L.getD i (0,0)).2:=if_pos (by simpa using AA)
         refine⟨⟨i+1,by omega⟩,by simp only;omega,AC [(1,.nm 1),(2,.nm 2),(3,.nm 3)] rfl rfl ?_ ?_⟩
         ·simp only[Js,hnext hiL,e]
          first|exact eN|refine eM ?_
         ·first|exact eN|refine eM ?_
    ·exact eV
    ·have hiL:i<L.length:=by exact eV
     have e:D9 f k si (L.getD i (0,0))=si:=if_neg (by simpa using AA)
     refine⟨⟨i+1,by omega⟩,by simp only;omega,AC [(1,.nm 1),(2,.nm 2),(3,.nm 3)] rfl rfl ?_ ?_⟩
     ·simp only[hnext hiL,e]
      first|exact eN|refine eM ?_
     ·first|exact eN|refine eM ?_
    ·have hk:L.take i=L:=List.take_of_length_le (by exact eV)
     rw[hk]at hsi
     have h1:D8 f (k+1) (num,ord) n=si:=by rw[Hw,hL,←hsi,←hs1]
     rw[h1]
     exact Bp hc [] rfl (.inr rfl) (.raw (.tuple #[])) rfl ⟨rfl,rfl⟩
end
/- Functions of grammarlabref07: From. -/
section
attribute [local go_sem] JV
def ZZ (f:List AF) (s:List Int×List Int):Prop:=∀n∈s.2,0≤n∧n<(f.length:Int)
theorem TD {f:List AF} (hf:AY f):∀(k:Nat) (s:List Int×List Int) (n:Int),ZZ f s→0≤n→n<f.length→ZZ f (D8 f k s n)
 | 0,s,n,h,_,_=>h
 | k+1,s,n,h,h0,h1=>by
  rw[Hw]
  have key:∀(l:List (Int×Int)) (t:List Int×List Int),(∀a∈l,0≤a.2∧a.2<(f.length:Int))→ZZ f t→ZZ f (l.foldl (D9 f k) t):=by
   intro l
   induction l with
   | nil=>intro t _ ht;exact ht
   | cons a l ih =>
    intro t hl ht
    simp only[List.foldl_cons]
    refine ih _ (fun b hb=>hl b (by simp[hb])) ?_
    unfold D9
    split
    ·exact TD hf k t a.2 ht (hl a (by simp)).1 (hl a (by simp)).2
    ·exact ht
  refine key _ _ (fun a ha=>Rc hf ha) ?_
  intro m hm
  simp only[List.mem_append,List.mem_singleton]at hm
  rcases hm with hm|rfl
  ·exact h m hm
  ·exact⟨h0,h1⟩
def HS (f:List AF) (root:Int):List Int×List Int:=D8 f f.length (List.replicate f.length (-1),[]) root
def UT (num:List Int) (a:Int×Int):Int×Int:=(a.1,num.getD a.2.toNat 0)
def MA (f:List AF) (num:List Int) (n:Int):AF:=((f.getD n.toNat (0,[])).1,(Ay (f.getD n.toNat (0,[])).2).map (UT num))
def MB (f:List AF) (root:Int):List AF:=(HS f root).2.map (MA f (HS f root).1)
theorem Za (m:Nat):Jy (List.replicate m (-1))=m:=by
 induction m with
 | zero=>rfl
 | succ m ih=>simp only[Jy,List.replicate_succ,List.countP_cons]at ih ⊢;simp[ih]
theorem tr0 (f:List AF):RF f (List.replicate f.length (-1),[]):=⟨by simp,by simp[Za]⟩
theorem lI {f:List AF} {n:Int} (h0:0≤n) (h1:n<f.length):(List.replicate f.length (-1:Int)).getD n.toNat 0<0:=by
 have:n.toNat<f.length:=by omega
 simp[List.getD_eq_getElem?_getD,List.getElem?_replicate,this]
theorem lJ {f:List AF} (hf:AY f) {n:Int} (h0:0≤n) (h1:n<f.length):RF f (HS f n)∧ZZ f (HS f n) :=
 ⟨(Pg hf _ _ n (tr0 f) h0 h1 (lI h0 h1)).1,TD hf _ _ n (fun m hm=>by simp at hm) h0 h1⟩
theorem Zb {α β:Type} (g:α→β) (h:β→α) (L:List α) (d:α) {k:Nat} (hk:k<L.length) (u:α→α):((L.take k).map u++L.drop k).set k (u (L.getD k d))=(L.take (k+1)).map u++L.drop (k+1)∧((L.take k).map u++L.drop k).getD k d=L.getD k d:=by
 have h1:((L.take k).map u).length=k:=by simp;omega
 have h2:L.drop k=L.getD k d :: L.drop (k+1):=by
  rw[List.drop_eq_getElem_cons hk,List.getD_eq_getElem?_getD,List.getElem?_eq_getElem hk];rfl
 constructor
 ·rw[Ae L d hk,List.set_append_right _ _ (by omega),h1,Nat.sub_self,h2]
  simp
 ·rw[List.getD_eq_getElem?_getD,List.getElem?_append_right (by omega),h1,Nat.sub_self,h2];rfl
def Zc:Ac:={ ins:=[FW,T3],pre:=fun(f,n,_)=>AY f∧0≤n∧n<(List.length f:Int),out:=fun(f,n,_)=>[.p FW (MB f n)] }
theorem A0n:Ai Tryz.prog 54 Zc:=by
 refine AP Tryz.func54 (by kernel_rfl) rfl Tryz.ntmps54 (by decide) (by kernel_rfl) (AH [(80,JV)]) (AE Vf AI) ?_
 rintro w0 O0 ⟨f,root,u⟩ hc-⟨hf,hr0,hr1⟩
 simp only[Zc,AM]
 have hfl:=hf.1
 repeat'(first|exact trivial|refine eS rfl ?_|refine AB ?_|refine rX [0,1,2,4,5,6,7,8,9,10,11,19,40,60] hc ?_ ?_|refine rC ?_ ?_<;>intro AA<;>try(cases AA;done))
 refine AK (ι:={i:Nat//i≤f.length}) (fun i=>⟨[(1,.p T3 root),(2,.bp 2 [] 0),(4,.bp 4 [] 0),(5,.bp 14 [] 0),(6,.p (.int .i64) (i.1:Int))],[(2,.box 24 true [.p Jm f]),(4,.box 24 true [.raw (.slice none 0 0)]),(14,.box 140 true [.p FW f,.sr 10 T3 0 i.1,.raw (.slice none 0 0)]),(10,.arr 3 T3 (List.replicate i.1 (-1)))]⟩) (fun i=>f.length-i.1) ⟨0,by omega⟩ (AC [(2,.nm 2),(4,.nm 4),(14,.nm 14),(10,.nil)] rfl rfl ?_ ?_) (fun i=>?_)
 ·first|exact eN|refine eM ?_
  rfl
 ·first|exact eN|refine eM ?_
 ·obtain⟨i,hi⟩:=i
  repeat'(first|exact trivial|refine eS rfl ?_|refine AB ?_|refine rX [0,1,2,4,5,6,7,8,9,10,11,19,40,60] hc ?_ ?_|refine rC ?_ ?_<;>intro AA<;>try(cases AA;done))
  ·simp only[AO];omega
  ·exact eV
  ·have hi:i<List.length f:=by exact eV
   refine⟨⟨i+1,by omega⟩,by simp only;omega,AC [(2,.nm 2),(4,.nm 4),(14,.nm 14),(10,.nm 10)] rfl rfl ?_ ?_⟩
   ·first|exact eN|refine eM ?_
    rw[List.replicate_succ']
    simp
   ·first|exact eN|refine eM ?_
  ·have hif:i=List.length f:=by exact eV
   subst hif
   have hvo:=lJ hf hr0 hr1
   refine cP 2 hc ?_ ?_
   ·trivial
   ·refine rM hc (uF f hf (List.length f) (List.replicate (List.length f) (-1),[]) root (tr0 f) hr0 hr1 (lI hr0 hr1) (by rw[Za];exact Nat.le_refl _)) [(1,.nm 14),(2,.nm 10),(3,.nil)] [10] ?_ ?_ ?_
    ·first|exact eN|refine eM ?_
    ·simp only[Js]
     first|exact eN|refine eM ?_
     simp
    ·rintro _ _ ⟨rfl,rfl⟩
     refine⟨[(14,.nm 1),(101,.nm 2),(102,.nm 3)],.raw (.tuple #[]),[(14,.box 140 true [.p FW f,.sr 101 T3 0 (HS f root).1.length,.sr 102 T3 0 (HS f root).2.length]),(101,.arr 3 T3 (HS f root).1),(102,.arr 3 T3 (HS f root).2)],rfl,rfl,?_,?_,rfl,rfl,EJ ?_⟩
     ·simp only[Js,HS]
      first|exact eN|refine eM ?_
     ·first|exact eN|refine eM ?_
     ·have hfrom:MB f root=(HS f root).2.map (MA f (HS f root).1):=rfl
      rw[hfrom]
      generalize HS f root=s at hvo
      obtain⟨num,ord⟩:=s
      obtain⟨⟨hn1,hn2⟩,hord⟩:=hvo
      simp only at hn1 hn2
      have hord:∀n∈ord,0≤n∧n<(List.length f:Int):=hord
      repeat'(first|exact trivial|refine eS rfl ?_|refine AB ?_|refine rX [0,1,2,4,5,6,7,8,9,10,11,19,40,60] hc ?_ ?_|refine rC ?_ ?_<;>intro AA<;>try(cases AA;done))
      refine AK (ι:={i:Nat//i≤ord.length}) (fun i=>⟨[(2,.bp 2 [] 0),(4,.bp 4 [] 0),(5,.bp 14 [] 0),(7,.bp 7 [] 0),(8,.p (.int .i64) (i.1:Int))],[(2,.box 24 true [.p Jm f]),(4,.box 24 true [.raw (.slice none 0 0)]),(14,.box 140 true [.p FW f,.sr 101 T3 0 num.length,.sr 102 T3 0 ord.length]),(101,.arr 3 T3 num),(102,.arr 3 T3 ord),(7,.box 24 true [.sr 200 nS 0 i.1]),(200,.arr 61 nS ((ord.take i.1).map (MA f num)))]⟩) (fun i=>ord.length-i.1) ⟨0,by omega⟩ (AC [(2,.nm 2),(4,.nm 4),(14,.nm 14),(101,.nm 101),(102,.nm 102),(7,.nm 7),(200,.nil)] rfl rfl ?_ ?_) (fun i=>?_)
      ·first|exact eN|refine eM ?_
      ·first|exact eN|refine eM ?_
      ·obtain⟨i,hi⟩:=i
       repeat'(first|exact trivial|refine eS rfl ?_|refine AB ?_|refine rX [0,1,2,4,5,6,7,8,9,10,11,19,40,60] hc ?_ ?_|refine rC ?_ ?_<;>intro AA<;>try(cases AA;done))
       ·have hi:i<ord.length:=by exact eV
        exact⟨by exact eV,hord _ (AD ord 0 hi)⟩
       ·exact Nat.le_trans (HR hf _) (by omega)
       ·have hi:i<ord.length:=by exact eV
        have harcs:=fun a (ha:a∈Ay (f.getD (Int.toNat (ord.getD i 0)) (0,[])).2)=>Rc hf ha
        have hnode:MA f num (ord.getD i 0)=((f.getD (Int.toNat (ord.getD i 0)) (0,[])).1,(Ay (f.getD (Int.toNat (ord.getD i 0)) (0,[])).2).map (UT num)):=rfl
        have hxl:=HR hf (ord.getD i 0)
        generalize List.getD f (Int.toNat (ord.getD i 0)) (0,[])=x at *
        obtain⟨xt,xa⟩:=x
        simp only at harcs hnode hxl
        have hLl:=Hv xa
        generalize Ay xa=L at *
        refine AK (ι:={k:Nat//k≤L.length}) (fun k=>⟨[(2,.bp 2 [] 0),(4,.bp 4 [] 0),(5,.bp 14 [] 0),(7,.bp 7 [] 0),(8,.p (.int .i64) (i:Int)),(9,.bp 9 [] 0),(10,.sr 56 aO 0 L.length),(11,.p (.int .i64) (k.1:Int))],[(56,.arr 63 aO ((L.take k.1).map (UT num)++L.drop k.1)),(9,.box 61 true [.p T3 xt,.p Ee xa]),(2,.box 24 true [.p Jm f]),(4,.box 24 true [.raw (.slice none 0 0)]),(14,.box 140 true [.p FW f,.sr 101 T3 0 num.length,.sr 102 T3 0 ord.length]),(101,.arr 3 T3 num),(102,.arr 3 T3 ord),(7,.box 24 true [.sr 200 nS 0 i]),(200,.arr 61 nS ((ord.take i).map (MA f num)))]⟩) (fun k=>L.length-k.1) ⟨0,by omega⟩ (AC [(2,.nm 2),(4,.nm 4),(14,.nm 14),(101,.nm 101),(102,.nm 102),(7,.nm 7),(200,.nm 200),(9,.nm 9),(56,.nm 56)] rfl rfl ?_ ?_) (fun k=>?_)
        ·first|exact eN|refine eM ?_
        ·first|exact eN|refine eM ?_
        ·obtain⟨k,hk⟩:=k
         repeat'(first|exact trivial|refine eS rfl ?_|refine AB ?_|refine rX [0,1,2,4,5,6,7,8,9,10,11,19,40,60] hc ?_ ?_|refine rC ?_ ?_<;>intro AA<;>try(cases AA;done))
         ·have hkL:k<L.length:=by exact eV
          have e:=(Zb (UT num) (fun b=>b) L (0,0) hkL (UT num)).2
          rw[e]
          have:=harcs _ (AD L (0,0) hkL)
          rw[hn1]
          exact⟨by exact eV,this,by exact eV⟩
         ·exact eV
         ·have hkL:k<L.length:=by exact eV
          have e:=Zb (UT num) (fun b=>b) L (0,0) hkL (UT num)
          refine⟨⟨k+1,by omega⟩,by simp only;omega,AC [(2,.nm 2),(4,.nm 4),(14,.nm 14),(101,.nm 101),(102,.nm 102),(7,.nm 7),(200,.nm 200),(9,.nm 9),(56,.nm 56)] rfl rfl ?_ ?_⟩
          ·first|exact eN|refine eM ?_
           rw[e.2]
           exact e.1
          ·first|exact eN|refine eM ?_
         ·simp only[AO];have:=hn2;omega
         ·exact eV
         ·have hkL:L.take k=L:=List.take_of_length_le (by exact eV)
          have hdL:L.drop k=[]:=List.drop_eq_nil_of_le (by exact eV)
          refine⟨⟨i+1,by omega⟩,by simp only;omega,AC [(2,.nm 2),(4,.nm 4),(14,.nm 14),(101,.nm 101),(102,.nm 102),(7,.nm 7),(200,.nm 200)] rfl rfl ?_ ?_⟩
          ·first|exact eN|refine eM ?_
           rw[hkL,hdL,List.append_nil,Ae ord 0 hi,List.map_append,List.map_cons,List.map_nil,hnode]
           have t1:List.take i ((ord.take i).map (MA f num))=(ord.take i).map (MA f num):=List.take_of_length_le (by rw[List.length_map,List.length_take];omega)
           have t2:List.take L.length (L.map (UT num))=L.map (UT num):=List.take_of_length_le (by rw[List.length_map];omega)
           rw[t1,t2]
          ·first|exact eN|refine eM ?_
       ·have hk:ord.take i=ord:=List.take_of_length_le (by exact eV)
        rw[hk]
        refine AG hc [.cell 4 24] rfl (.inl rfl) (by simp) (by first|exact eR|refine Ap ?_;exact List.take_of_length_le (by rw[List.length_map];exact eV))
end
/- Functions of grammarlabref07: Canon, Sub; grammarlabref15: in, arc, canon. -/
section
attribute [local go_sem] lH Zc
theorem TE {n:Int}:∀ {l seen:List (Int×Int)},OQ n seen l=0→∀a∈l,0≤a.1∧0≤a.2∧a.2<n
 | [],_,_,a,ha=>by cases ha
 | x :: l,seen,h,a,ha=>by
  simp only[OQ]at h
  split at h
  ·cases h
  ·split at h
   ·cases h
   ·rename_i h1 _
    rcases List.mem_cons.1 ha with rfl|ha
    ·omega
    ·exact TE h a ha
theorem JW {m:Int}:∀ {f:List (Int×List (Int×Int))},Jq m f=0→∀x∈f,0≤x.1∧∀a∈x.2,0≤a.1∧0≤a.2∧a.2<m
 | [],_,x,hx=>by cases hx
 | y :: f,h,x,hx=>by
  simp only[Jq]at h
  split at h
  ·cases h
  ·split at h
   ·rename_i h1 h2;exact absurd h h2
   ·rename_i h1 h2
    have h2:Ir y.2 m=0:=Classical.byContradiction h2
    rcases List.mem_cons.1 hx with rfl|hx
    ·exact⟨by omega,TE h2⟩
    ·exact JW h x hx
def TF (f:List (Int×List (Int×Int))):Prop:=∀x∈f,x.2.length≤100000
theorem Mz {f:List (Int×List (Int×Int))} (h:D7 f=0) (hs:TF f):AY f∧0<f.length:=by
 unfold D7 at h
 split at h
 ·cases h
 ·split at h
  ·cases h
  ·refine⟨⟨by omega,fun x hx=>⟨hs x hx,fun a ha=>?_⟩⟩,by omega⟩
   have:=(JW h x hx).2 a ha
   exact⟨this.2.1,this.2.2⟩
def B4 (f:List AF):List AF×Int:=if D7 f=0 then (MB f 0,0) else ([],D7 f)
def Ph:Ac:={ ins:=[FW],pre:=fun(f,_)=>TF f,out:=fun(f,_)=>[.p FW (B4 f).1,.p Yp (B4 f).2] }
theorem Zd:Ai Tryz.prog 31 Ph:=by
 refine AP Tryz.func31 (by kernel_rfl) rfl Tryz.ntmps31 (by decide) (by kernel_rfl) (AH [(53,lH),(54,Zc)]) (AE A0m (AE A0n AI)) ?_
 rintro w0 O0 ⟨f,u⟩ hc-hs
 simp only[Ph,AM]
 repeat'(first|exact trivial|refine eS rfl ?_|refine AB ?_|refine rX [0,1,2,3,4,8] hc ?_ ?_|refine rC ?_ ?_<;>intro AA<;>try(cases AA;done))
 ·have h:¬D7 f=0:=by simpa using AA
  have e:B4 f=([],D7 f):=if_neg h
  exact AG hc [.cell 2 24,.tmp 3] rfl (.inl rfl) (by simp) (by rw[e];first|exact eR|refine Ap ?_)
 ·have h:D7 f=0:=by simpa using AA
  have:=Mz h hs
  exact⟨this.1,by exact eV⟩
 ·have h:D7 f=0:=by simpa using AA
  have e:B4 f=(MB f 0,0):=if_pos h
  exact AG hc [.cell 2 24,.tmp 3] rfl (.inl rfl) (by simp) (by rw[e];first|exact eR|refine Ap ?_)
end
/- Functions of grammarlabref15: LightPaths; grammarlabref07.Atom. -/
section
def CM (l:List (List Int)):Bool:=decide (l.length≤20)&&l.all fun p=>decide (p.length≤20)
def E3:Ac:={ ins:=[PN],pre:=fun _=>True,out:=fun(l,_)=>[.p .bool (CM l)] }
theorem MC:Ai Tryz.prog 11 E3:=by
 refine AP Tryz.func11 (by kernel_rfl) rfl Tryz.ntmps11 (by decide) (by kernel_rfl) (AH []) AI ?_
 rintro w0 O0 ⟨l,u⟩ hc ⟨⟨hl,-⟩,-⟩ -
 simp only[AO]at hl
 simp only[E3,AM]
 repeat'(first|exact trivial|refine eS rfl ?_|refine AB ?_|refine rX [0,2,3,6,10,18] hc ?_ ?_|refine rC ?_ ?_<;>intro AA<;>try(cases AA;done))
 ·have h1:CM l=false:=by
   have h:¬l.length≤20:=by exact eV
   unfold CM
   simp[h]
  exact AG hc [.tmp 2] rfl (.inl rfl) (by simp) (by rw[h1];first|exact eR|refine Ap ?_)
 ·have h20:l.length≤20:=by exact eV
  refine AK (ι:={k:Nat//k≤l.length∧(l.take k).all (fun p=>decide (p.length≤20))=true}) (fun k=>⟨[(0,.p PN l),(3,.p (.int .i64) (k.1:Int))],[]⟩) (fun k=>l.length-k.1) ⟨0,by simp⟩ (AC [] rfl rfl ?_ ?_) (fun k=>?_)
  ·first|exact eN|refine eM ?_
  ·first|exact eN|refine eM ?_
  ·obtain⟨k,hk,hall⟩:=k
   repeat'(first|exact trivial|refine eS rfl ?_|refine AB ?_|refine rX [0,2,3,6,10,18] hc ?_ ?_|refine rC ?_ ?_<;>intro AA<;>try(cases AA;done))
   ·exact eV
   ·have hkl:k<l.length:=by exact eV
    have h1:CM l=false:=by
     have hm:=AD l [] hkl
     have h:¬(l.getD k []).length≤20:=by
      have:(20:Int)<((l.getD k []).length:Int):=AA
      omega
     unfold CM
     rw[Bool.and_eq_false_iff]
     right
     rw[List.all_eq_false]
     exact⟨_,hm,by simpa using h⟩
    exact AG hc [.tmp 2] rfl (.inl rfl) (by simp) (by rw[h1];first|exact eR|refine Ap ?_)
   ·exact eV
   ·have hkl:k<l.length:=by exact eV
    refine⟨⟨k+1,by exact eV,?_⟩,by simp only;exact eV,AC [] rfl rfl ?_ ?_⟩
    ·have h:(l.getD k []).length≤20:=by
      have:((l.getD k []).length:Int)≤20:=AA
      omega
     rw[Ae l [] hkl,List.all_append,hall]
     simpa using h
    ·first|exact eN|refine eM ?_
    ·first|exact eN|refine eM ?_
   ·have hk:l.take k=l:=List.take_of_length_le (by exact eV)
    rw[hk]at hall
    have h1:CM l=true:=by unfold CM;rw[hall];simp[h20]
    exact AG hc [.tmp 2] rfl (.inl rfl) (by simp) (by rw[h1];first|exact eR|refine Ap ?_)
end
/- Functions of grammarlabref15: Canonical. -/
section
attribute [local go_sem] Pc Ph Mx
def ftB (a:Int×Int):Bool:=decide (a.1<64)
def wO (x:AF):Bool:=decide (x.1<256)&&x.2.all ftB
def BB (f:List AF):Bool:=GR f&&f.all wO&&((B4 f).2==0&&(CU (B4 f).1 f==0))
def Gc:Ac:={ ins:=[FW],pre:=fun _=>True,out:=fun(f,_)=>[.p .bool (BB f)] }
theorem Hx {f:List AF} (h:GR f=true):f.length≤12∧∀x∈f,x.2.length≤12:=by
 unfold GR at h
 simp only[Bool.and_eq_true,decide_eq_true_eq,List.all_eq_true]at h
 exact h
theorem dG {f:List AF} (hf:AY f) {n:Int} (h0:0≤n) (h1:n<f.length):HP (MB f n):=by
 obtain⟨⟨g1,g2⟩,_⟩:=lJ hf h0 h1
 have hfl:=hf.1
 refine⟨?_,fun x hx=>?_⟩
 ·unfold MB
  rw[List.length_map]
  omega
 ·obtain⟨m,_,rfl⟩:=List.mem_map.1 hx
  unfold MA
  simp only[List.length_map,Hv]
  exact HR hf m
theorem Qm {f:List AF} (hs:TF f):HP (B4 f).1:=by
 unfold B4
 split
 ·rename_i h
  obtain⟨h1,h2⟩:=Mz h hs
  exact dG h1 (by omega) (by omega)
 ·exact⟨by simp,fun x hx=>by cases hx⟩
theorem TG:Ai Tryz.prog 10 Gc:=by
 refine AP Tryz.func10 (by kernel_rfl) rfl Tryz.ntmps10 (by decide) (by kernel_rfl) (AH [(30,Pc),(31,Ph),(32,Mx)]) (AE ZW (AE Zd (AE ZY AI))) ?_
 rintro w0 O0 ⟨f,u⟩ hc - -
 simp only[Gc,AM]
 repeat'(first|exact trivial|refine eS rfl ?_|refine AB ?_|refine rX [0,1,2,3,4,5,6,9,14,23,32,45] hc ?_ ?_|refine rC ?_ ?_<;>intro AA<;>try(cases AA;done))
 ·have e:BB f=false:=by unfold BB;rw[AA];rfl
  exact AG hc [.tmp 2] rfl (.inl rfl) (by simp) (by rw[e];first|exact eR|refine Ap ?_)
 ·have hlight:=AA
  obtain⟨hl,hla⟩:=Hx hlight
  refine AK (ι:={i:Nat//i≤f.length∧(f.take i).all wO=true}) (fun i=>⟨[(1,.bp 1 [] 0),(3,.p (.int .i64) (i.1:Int))],[(1,.box 24 true [.p Jm f])]⟩) (fun i=>f.length-i.1) ⟨0,by simp⟩ (AC [(1,.nm 1)] rfl rfl ?_ ?_) (fun i=>?_)
  ·first|exact eN|refine eM ?_
  ·first|exact eN|refine eM ?_
  ·obtain⟨i,hi,hall⟩:=i
   repeat'(first|exact trivial|refine eS rfl ?_|refine AB ?_|refine rX [0,1,2,3,4,5,6,9,14,23,32,45] hc ?_ ?_|refine rC ?_ ?_<;>intro AA<;>try(cases AA;done))
   ·exact eV
   ·have hif:i<f.length:=by exact eV
    have e:BB f=false:=by
     have hm:=AD f (0,[]) hif
     have hz:wO (f.getD i (0,[]))=false:=by
      unfold wO
      rw[decide_eq_false (by omega)]
      rfl
     unfold BB
     rw[List.all_eq_false.2 ⟨_,hm,by rw[hz];simp⟩]
     simp
    exact AG hc [.tmp 2] rfl (.inl rfl) (by simp) (by rw[e];first|exact eR|refine Ap ?_)
   ·have hif:i<f.length:=by exact eV
    have hx:=hla _ (AD f (0,[]) hif)
    have hm:=AD f (0,[]) hif
    have hsn:(f.take (i+1)).all wO=((f.take i).all wO&&wO (f.getD i (0,[]))):=by
     rw[Ae f (0,[]) hif,List.all_append];simp
    have hnd:wO (f.getD i (0,[]))=(f.getD i (0,[])).2.all ftB:=by
     unfold wO
     rw[decide_eq_true (by omega)]
     rfl
    refine AK (ι:={k:Nat//k≤(f.getD i (0,[])).2.length∧((f.getD i (0,[])).2.take k).all ftB=true}) (fun k=>⟨[(1,.bp 1 [] 0),(3,.p (.int .i64) (i:Int)),(4,.p (.int .i64) (k.1:Int))],[(1,.box 24 true [.p Jm f])]⟩) (fun k=>(f.getD i (0,[])).2.length-k.1) ⟨0,by simp⟩ (AC [(1,.nm 1)] rfl rfl ?_ ?_) (fun k=>?_)
    ·first|exact eN|refine eM ?_
    ·first|exact eN|refine eM ?_
    ·obtain⟨k,hk,hall2⟩:=k
     have hsn2:=fun(h:k<(f.getD i (0,[])).2.length)=>Ae (f.getD i (0,[])).2 (0,0) h
     repeat'(first|exact trivial|refine eS rfl ?_|refine AB ?_|refine rX [0,1,2,3,4,5,6,9,14,23,32,45] hc ?_ ?_|refine rC ?_ ?_<;>intro AA<;>try(cases AA;done))
     ·exact eV
     ·exact eV
     ·have hkL:k<(f.getD i (0,[])).2.length:=by exact eV
      have e:BB f=false:=by
       have hm2:=AD (f.getD i (0,[])).2 (0,0) hkL
       unfold BB
       rw[List.all_eq_false.2 ⟨_,hm,by rw[hnd,List.all_eq_false.2 ⟨_,hm2,by unfold ftB;rw[decide_eq_false (by omega)];simp⟩];simp⟩]
       simp
      exact AG hc [.tmp 2] rfl (.inl rfl) (by simp) (by rw[e];first|exact eR|refine Ap ?_)
     ·exact eV
     ·have hkL:k<(f.getD i (0,[])).2.length:=by exact eV
      refine⟨⟨k+1,by omega,?_⟩,by simp only;exact eV,AC [(1,.nm 1)] rfl rfl ?_ ?_⟩
      ·rw[hsn2 hkL,List.all_append,hall2]
       simp only[List.all_cons,List.all_nil,Bool.and_true,Bool.true_and]
       unfold ftB
       exact decide_eq_true AA
      ·first|exact eN|refine eM ?_
      ·first|exact eN|refine eM ?_
     ·exact eV
     ·have hkL:(f.getD i (0,[])).2.take k=(f.getD i (0,[])).2:=List.take_of_length_le (by exact eV)
      rw[hkL]at hall2
      refine⟨⟨i+1,by omega,?_⟩,by simp only;omega,AC [(1,.nm 1)] rfl rfl ?_ ?_⟩
      ·rw[hsn,hall,hnd,hall2];rfl
      ·first|exact eN|refine eM ?_
      ·first|exact eN|refine eM ?_
   ·intro x hx
    exact Nat.le_trans (hla x hx) (by omega)
   ·intro _
    have hsa:TF f:=fun x hx=>Nat.le_trans (hla x hx) (by omega)
    exact⟨Qm hsa,by omega,fun x hx=>Nat.le_trans (hla x hx) (by omega)⟩
   ·have hif:f.take i=f:=List.take_of_length_le (by exact eV)
    rw[hif]at hall
    have e:BB f=((B4 f).2==0&&(CU (B4 f).1 f==0)):=by
     unfold BB
     rw[hlight,hall]
     rfl
    exact AG hc [.tmp 2] rfl (.inl rfl) (by simp) (by rw[e];first|exact eR|refine Ap ?_)
end
/- Functions of Go's library under graph.canonical: isNaN, Compare, byFeature, the sort of what is sorted. -/
section
def Xa:Ac:={ ins:=[T3],pre:=fun _=>True,out:=fun _=>[.p .bool false] }
attribute [local go_sem] Xa
def E6 (a b:Int):Int:=if a<b then -1 else if b<a then 1 else 0
def DB:Ac:={ ins:=[T3,T3],pre:=fun _=>True,out:=fun(a,b,_)=>[.p T3 (E6 a b)] }
attribute [local go_sem] DB
theorem uG:Ai Tryz.prog 74 Xa:=by
 refine AP Tryz.func74 (by kernel_rfl) rfl Tryz.ntmps74 (by decide) (by kernel_rfl) (AH []) AI ?_
 rintro w0 O0 ⟨x,u⟩ hc - -
 simp only[Xa,AM]
 repeat'(first|exact trivial|refine eS rfl ?_|refine AB ?_|refine rX [0,2] hc ?_ ?_|refine rC ?_ ?_<;>intro AA<;>try(cases AA;done))
 exact AG hc [.tmp 2] rfl (.inl rfl) (by simp) (by first|exact eR|refine Ap ?_)
theorem IP:Ai Tryz.prog 48 DB:=by
 refine AP Tryz.func48 (by kernel_rfl) rfl Tryz.ntmps48 (by decide) (by kernel_rfl) (AH [(74,Xa)]) (AE uG AI) ?_
 rintro w0 O0 ⟨a,b,u⟩ hc - -
 simp only[DB,AM]
 repeat'(first|exact trivial|refine eS rfl ?_|refine AB ?_|refine rX [0,1,4,5,6,11,12,13,16,19] hc ?_ ?_|refine rC ?_ ?_<;>intro AA<;>try(cases AA;done))
 ·have e:E6 a b=-1:=if_pos AA
  exact AG hc [.tmp 4] rfl (.inl rfl) (by simp) (by rw[e];first|exact eR|refine Ap ?_)
 ·have e:E6 a b=1:=by unfold E6;rw[if_neg (by omega),if_pos AA]
  exact AG hc [.tmp 4] rfl (.inl rfl) (by simp) (by rw[e];first|exact eR|refine Ap ?_)
 ·have e:E6 a b=0:=by unfold E6;rw[if_neg (by omega),if_neg (by omega)]
  exact AG hc [.tmp 4] rfl (.inl rfl) (by simp) (by rw[e];first|exact eR|refine Ap ?_)
def oX (l:List (Int×Int)):Prop:=∀i,i+1<l.length→(l.getD i (0,0)).1<(l.getD (i+1) (0,0)).1
end
/- The plain law under graph.canonical: the program's search and the reference's are one, where each node's arcs ascend. -/
section
def QQX (f:List AF):Nat→List Int→Int→List Int
 | 0,o,_=>o
 | k+1,o,n=>(f.getD n.toNat (0,[])).2.foldl (fun o a=>if a.2∈o then o else QQX f k o a.2) (o++[n])
def Al (f:List AF) (k:Nat) (o:List Int) (a:Int×Int):List Int:=if a.2∈o then o else QQX f k o a.2
theorem Da (f:List AF) (k:Nat) (o:List Int) (n:Int):QQX f (k+1) o n=(f.getD n.toNat (0,[])).2.foldl (Al f k) (o++[n]):=rfl
structure MD (f:List AF) (o:List Int):Prop where
 nd:o.Nodup
 rng:∀x∈o,0≤x∧x<(f.length:Int)
theorem MD.len {f:List AF} {o:List Int} (h:MD f o):o.length≤f.length:=by
 have h1:(o.map Int.toNat).Nodup:=by
  rw[List.Nodup,List.pairwise_map]
  refine h.nd.imp_of_mem fun {a b} ha hb hne e=>hne ?_
  have:=h.rng a ha
  have:=h.rng b hb
  omega
 have:=EI f.length (o.map Int.toNat) h1 (fun j hj=>by
  obtain⟨x,hx,rfl⟩:=List.mem_map.1 hj
  have:=h.rng x hx
  omega)
 simpa using this
theorem MD.snoc {f:List AF} {o:List Int} (h:MD f o) {n:Int} (h0:0≤n) (h1:n<f.length) (hn:n∉o):MD f (o++[n]):=by
 refine⟨?_,fun x hx=>?_⟩
 ·rw[List.nodup_append]
  refine⟨h.nd,by simp,fun a ha b hb=>?_⟩
  have:b=n:=by simpa using hb
  subst this
  intro e
  subst e
  exact hn ha
 ·rcases List.mem_append.1 hx with hx|hx
  ·exact h.rng x hx
  ·have:x=n:=by simpa using hx
   subst this
   exact⟨h0,h1⟩
theorem Eh {f:List AF} {k:Nat} (hv:∀(o:List Int) (n:Int),MD f o→0≤n→n<f.length→n∉o→MD f (QQX f k o n)∧o <+: QQX f k o n) :
  ∀(l:List (Int×Int)) (o:List Int),(∀a∈l,0≤a.2∧a.2<(f.length:Int))→MD f o→MD f (l.foldl (Al f k) o)∧o <+: l.foldl (Al f k) o
 | [],o,_,h=>⟨h,List.prefix_refl _⟩
 | a :: l,o,hl,h=>by
  simp only[List.foldl_cons]
  have hstep:MD f (Al f k o a)∧o <+: Al f k o a:=by
   unfold Al
   split
   ·exact⟨h,List.prefix_refl _⟩
   ·rename_i hn
    exact hv o a.2 h (hl a (by simp)).1 (hl a (by simp)).2 hn
  obtain⟨g1,g2⟩:=Eh hv l _ (fun b hb=>hl b (by simp[hb])) hstep.1
  exact⟨g1,hstep.2.trans g2⟩
theorem A9 {f:List AF} (hf:AY f) {n:Int} {a:Int×Int} (ha:a∈(f.getD n.toNat (0,[])).2):0≤a.2∧a.2<f.length:=by
 by_cases h:n.toNat<f.length
 ·have hm:f.getD n.toNat (0,[])∈f:=by
   rw[List.getD_eq_getElem?_getD,List.getElem?_eq_getElem h];exact List.getElem_mem h
  exact(hf.2 _ hm).2 a ha
 ·rw[List.getD_eq_getElem?_getD,List.getElem?_eq_none (by omega)]at ha
  simp at ha
theorem EA {f:List AF} (hf:AY f):∀(k:Nat) (o:List Int) (n:Int),MD f o→0≤n→n<f.length→n∉o→MD f (QQX f k o n)∧o <+: QQX f k o n
 | 0,o,n,h,_,_,_=>⟨h,List.prefix_refl _⟩
 | k+1,o,n,h,h0,h1,h2=>by
  obtain⟨g1,g2⟩:=Eh (EA hf k) _ _ (fun a ha=>A9 hf ha) (h.snoc h0 h1 h2)
  rw[Da]
  exact⟨g1,(List.prefix_append o [n]).trans g2⟩
theorem HT {f:List AF} (hf:AY f):∀(k:Nat) (o:List Int) (n:Int),MD f o→0≤n→n<f.length→n∉o→f.length-o.length≤k →
  n∈QQX f k o n∧∀x∈QQX f k o n,x∈o∨∀a∈(f.getD x.toNat (0,[])).2,a.2∈QQX f k o n
 | 0,o,n,h,h0,h1,h2,hk=>by
  have:=(h.snoc h0 h1 h2).len
  simp only[List.length_append,List.length_singleton]at this
  omega
 | k+1,o,n,h,h0,h1,h2,hk=>by
  have key:∀(l:List (Int×Int)) (t:List Int),(∀a∈l,0≤a.2∧a.2<(f.length:Int))→MD f t→f.length-t.length≤k →
    (∀a∈l,a.2∈l.foldl (Al f k) t)∧∀x∈l.foldl (Al f k) t,x∈t∨∀a∈(f.getD x.toNat (0,[])).2,a.2∈l.foldl (Al f k) t:=by
   intro l
   induction l with
   | nil=>exact fun t _ _ _=>⟨fun a ha=>(by cases ha),fun x hx=>.inl hx⟩
   | cons a l ih =>
    intro t hl ht hlen
    simp only[List.foldl_cons]
    have hstep:MD f (Al f k t a)∧t <+: Al f k t a∧a.2∈Al f k t a∧∀x∈Al f k t a,x∈t∨∀b∈(f.getD x.toNat (0,[])).2,b.2∈Al f k t a:=by
     unfold Al
     split
     ·rename_i hn
      exact⟨ht,List.prefix_refl _,hn,fun x hx=>.inl hx⟩
     ·rename_i hn
      have q:=hl a (by simp)
      obtain⟨g1,g2⟩:=EA hf k t a.2 ht q.1 q.2 hn
      obtain⟨g3,g4⟩:=HT hf k t a.2 ht q.1 q.2 hn hlen
      exact⟨g1,g2,g3,g4⟩
    obtain⟨g1,g2,g3,g4⟩:=hstep
    have hle:=g2.length_le
    obtain⟨i1,i2⟩:=ih (Al f k t a) (fun b hb=>hl b (by simp[hb])) g1 (by omega)
    obtain⟨_,j2⟩:=Eh (EA hf k) l (Al f k t a) (fun b hb=>hl b (by simp[hb])) g1
    refine⟨fun b hb=>?_,fun x hx=>?_⟩
    ·rcases List.mem_cons.1 hb with rfl|hb
     ·exact j2.subset g3
     ·exact i1 b hb
    ·rcases i2 x hx with hx|hx
     ·rcases g4 x hx with hx|hx
      ·exact .inl hx
      ·exact .inr fun b hb=>j2.subset (hx b hb)
     ·exact .inr hx
  have hs:=h.snoc h0 h1 h2
  obtain⟨g1,g2⟩:=key (f.getD n.toNat (0,[])).2 (o++[n]) (fun a ha=>A9 hf ha) hs (by simp only[List.length_append,List.length_singleton];omega)
  obtain⟨_,g3⟩:=Eh (EA hf k) (f.getD n.toNat (0,[])).2 (o++[n]) (fun a ha=>A9 hf ha) hs
  rw[Da]
  refine⟨g3.subset (by simp),fun x hx=>?_⟩
  rcases g2 x hx with hx|hx
  ·rcases List.mem_append.1 hx with hx|hx
   ·exact .inl hx
   ·have:x=n:=by simpa using hx
    subst this
    exact .inr g1
  ·exact .inr hx
def B5 (o:List Int) (x:Int):Int:=if x∈o then (o.idxOf x:Int) else 0
def Xb (o:List Int) (a:Int×Int):Int×Int:=(a.1,B5 o a.2)
def GF (f:List AF) (o:List Int) (n:Int):AF:=((f.getD n.toNat (0,[])).1,(f.getD n.toNat (0,[])).2.map (Xb o))
def AX (f:List AF) (root:Int):List AF:=(QQX f f.length [] root).map (GF f (QQX f f.length [] root))
def Ew (f:List AF):Prop:=∀x∈f,oX x.2∧x.2.length≤200
theorem Xc {f:List AF} (hf:Ew f) (n:Int):oX (f.getD n.toNat (0,[])).2∧(f.getD n.toNat (0,[])).2.length≤200:=by
 by_cases h:n.toNat<f.length
 ·have hm:f.getD n.toNat (0,[])∈f:=by
   rw[List.getD_eq_getElem?_getD,List.getElem?_eq_getElem h];exact List.getElem_mem h
  exact hf _ hm
 ·rw[List.getD_eq_getElem?_getD,List.getElem?_eq_none (by omega)]
  exact⟨fun i hi=>by simp at hi,by simp⟩
theorem Qn {l:List (Int×Int)} (h:oX l):Ay l=l:=by
 have key:∀i,i≤l.length→Ay (l.take i)=l.take i:=by
  intro i
  induction i with
  | zero=>intro _;rfl
  | succ i ih =>
   intro hi
   rw[Ae l (0,0) (by omega),JU,ih (by omega)]
   have hlen:(l.take i).length=i:=by rw[List.length_take];omega
   have hpos:Jx (l.getD i (0,0)) (l.take i) (l.take i).length=(l.take i).length:=by
    rw[hlen]
    cases i with
    | zero=>rfl
    | succ i =>
     have h1:=h i (by omega)
     have h2:(l.take (i+1)).getD i (0,0)=l.getD i (0,0):=by
      simp only[List.getD_eq_getElem?_getD]
      rw[List.getElem?_take];simp
     simp only[Jx]
     rw[h2,if_neg (by omega)]
   unfold Pf
   rw[hpos,List.take_length,List.drop_length,List.append_nil]
 have:=key l.length (Nat.le_refl _)
 rwa [List.take_length]at this
structure Jt (f:List AF) (num o:List Int):Prop where
 len:num.length=f.length
 get:∀j,j<f.length→num.getD j 0=if (j:Int)∈o then (o.idxOf (j:Int):Int) else -1
theorem Jt.neg {f:List AF} {num o:List Int} (h:Jt f num o) {n:Int} (h0:0≤n) (h1:n<f.length):num.getD n.toNat 0<0↔n∉o:=by
 have:=h.get n.toNat (by omega)
 rw[show ((n.toNat:Nat):Int)=n by omega]at this
 rw[this]
 split
 ·rename_i hm
  constructor
  ·intro e;omega
  ·intro e;exact absurd hm e
 ·rename_i hm
  exact⟨fun _=>hm,fun _=>by omega⟩
theorem oY {o:List Int} {x n:Int} (h:x∈o):(o++[n]).idxOf x=o.idxOf x:=by rw[List.idxOf_append,if_pos h]
theorem oZ {o:List Int} {n:Int} (h:n∉o):(o++[n]).idxOf n=o.length:=by rw[List.idxOf_append,if_neg h];simp
theorem Jt.snoc {f:List AF} {num o:List Int} (h:Jt f num o) {n:Int} (h0:0≤n) (h1:n<f.length) (hn:n∉o):Jt f (num.set n.toNat (o.length:Int)) (o++[n]):=by
 refine⟨by simpa using h.len,fun j hj=>?_⟩
 have hj':j<num.length:=by rw[h.len];exact hj
 by_cases e:j=n.toNat
 ·subst e
  have en:((n.toNat:Nat):Int)=n:=by omega
  rw[en]
  simp only[List.getD_eq_getElem?_getD]
  rw[List.getElem?_set_self hj',if_pos (by simp),oZ hn]
  simp
 ·have en:¬(j:Int)=n:=by omega
  simp only[List.getD_eq_getElem?_getD]
  rw[List.getElem?_set_ne (fun e'=>e e'.symm)]
  have:=h.get j hj
  simp only[List.getD_eq_getElem?_getD]at this
  rw[this]
  by_cases hm:(j:Int)∈o
  ·rw[if_pos hm,if_pos (by simp[hm]),oY hm]
  ·rw[if_neg hm,if_neg (by simp[hm,en])]
theorem TH {f:List AF} (hf:AY f) (hs:Ew f):∀(k:Nat) (s:List Int×List Int) (n:Int),Jt f s.1 s.2→MD f s.2→0≤n→n<f.length→n∉s.2→(D8 f k s n).2=QQX f k s.2 n∧Jt f (D8 f k s n).1 (D8 f k s n).2
 | 0,s,n,h,_,_,_,_=>⟨rfl,h⟩
 | k+1,s,n,h,hd,h0,h1,h2=>by
  have key:∀(l:List (Int×Int)) (t:List Int×List Int),(∀a∈l,0≤a.2∧a.2<(f.length:Int))→Jt f t.1 t.2→MD f t.2→(l.foldl (D9 f k) t).2=l.foldl (Al f k) t.2∧Jt f (l.foldl (D9 f k) t).1 (l.foldl (D9 f k) t).2:=by
   intro l
   induction l with
   | nil=>exact fun t _ ht _=>⟨rfl,ht⟩
   | cons a l ih =>
    intro t hl ht htd
    simp only[List.foldl_cons]
    have q:=hl a (by simp)
    have hq:=ht.neg q.1 q.2
    have hstep:(D9 f k t a).2=Al f k t.2 a∧Jt f (D9 f k t a).1 (D9 f k t a).2∧MD f (D9 f k t a).2:=by
     unfold D9 Al
     by_cases hm:a.2∈t.2
     ·rw[if_pos hm,if_neg (by rw[hq];exact fun e=>e hm)]
      exact⟨rfl,ht,htd⟩
     ·rw[if_neg hm,if_pos (by rw[hq];exact hm)]
      obtain⟨g1,g2⟩:=TH hf hs k t a.2 ht htd q.1 q.2 hm
      exact⟨g1,g2,by rw[g1];exact(EA hf k t.2 a.2 htd q.1 q.2 hm).1⟩
    obtain⟨g1,g2,g3⟩:=hstep
    obtain⟨i1,i2⟩:=ih (D9 f k t a) (fun b hb=>hl b (by simp[hb])) g2 g3
    rw[g1]at i1
    exact⟨i1,i2⟩
  rw[Hw,Da,Qn (Xc hs n).1]
  exact key _ (s.1.set n.toNat (s.2.length:Int),s.2++[n]) (fun a ha=>A9 hf ha) (h.snoc h0 h1 h2) (hd.snoc h0 h1 h2)
theorem TJ {f:List AF} (hf:AY f) (hs:Ew f) {root:Int} (h0:0≤root) (h1:root<f.length):MB f root=AX f root:=by
 have hn0:Jt f (List.replicate f.length (-1)) []:=⟨by simp,fun j hj=>by simp[List.getD_eq_getElem?_getD,List.getElem?_replicate,hj]⟩
 have hd0:MD f []:=⟨by simp,fun x hx=>by cases hx⟩
 obtain⟨g1,g2⟩:=TH hf hs f.length (List.replicate f.length (-1),[]) root hn0 hd0 h0 h1 (by simp)
 have g1:(HS f root).2=QQX f f.length [] root:=g1
 have g2:Jt f (HS f root).1 (HS f root).2:=g2
 have hc:=(HT hf f.length [] root hd0 h0 h1 (by simp) (by simp)).2
 have ho:=(EA hf f.length [] root hd0 h0 h1 (by simp)).1
 unfold MB AX
 rw[g1]at g2 ⊢
 generalize QQX f f.length [] root=o at *
 refine List.map_congr_left fun x hx=>?_
 unfold MA GF
 rw[Qn (Xc hs x).1]
 refine congrArg _ (List.map_congr_left fun a ha=>?_)
 unfold UT Xb B5
 have hin:a.2∈o:=by
  rcases hc x hx with hx'|hx'
  ·cases hx'
  ·exact hx' a ha
 have hr:=A9 hf ha
 have:=g2.get a.2.toNat (by omega)
 rw[show ((a.2.toNat:Nat):Int)=a.2 by omega]at this
 rw[this,if_pos hin,if_pos hin]
/-! The program's map of numbers -/
theorem ME {α:Type} {p:List α→Prop} (h0:p []) (h1:∀l a,p l→p (l++[a])) (l:List α):p l:=by
 have:∀n (l:List α),l.length=n→p l:=by
  intro n
  induction n with
  | zero=>intro l hl;rw[List.length_eq_zero_iff.1 hl];exact h0
  | succ n ih =>
   intro l hl
   have hne:l≠[]:=by intro e;subst e;simp at hl
   rw[←List.dropLast_concat_getLast hne]
   exact h1 _ _ (ih _ (by simp[hl]))
 exact this _ l rfl
end
/- Functions of Go's library under graph.canonical: the sort of sorted elements. -/
section
open Go
end
/- Functions of Go's library under graph.canonical: Values, AppendSeq, Collect, SortFunc, SortedFunc, of what is sorted. -/
section
theorem uH {L:Go.Loop} (h1:L.state=.ready) (h2:L.pending=none):{ { L with state:=.busy } with state:=.ready,pending:=none }=L:=by
 cases L;simp_all
theorem uI (x:Int) (h0:0≤x) (h1:x<256):Ca Tryz.prog 112 [.p (.int .u64) x] [] [] (fun res objs'=>(∃n:Int,res=.p T3 n∧(13≤x→n≠0))∧objs'=[]):=by
 refine DJ Tryz.func112 (by kernel_rfl) rfl Tryz.ntmps112 (by simp only[List.length_cons,List.length_nil];omega) (by kernel_rfl) rfl rfl (AH []) AI ?_
 intro w0 K O0 ρ0 hc hok1 hok2
 simp only[BU]
 repeat'(first|exact trivial|refine eS rfl ?_|refine AB ?_|refine rX [0,2,4,8,14] hc ?_ ?_|refine rC ?_ ?_<;>intro AA<;>try(cases AA;done))
 all_goals first|(exfalso;omega)|skip
 refine KQ [0,2] hc rfl (by simp only[go_sem,Nat.reduceEqDiff,reduceCtorEq,Nat.reduceAdd,Nat.reduceSub,Nat.reduceMul,Nat.reduceLeDiff,Nat.reduceLT,Int.reduceLE,Int.reduceToNat,Int.reduceNeg,↓reduceIte,ByteArray.size,List.size_toArray,AO];rfl) ?_ ?_
 ·have hu:∀u:UInt8,((u.toNat:Nat):Int)≤255:=fun u=>by have:=u.toNat_lt;omega
  refine⟨⟨h0,by omega⟩,⟨h0,?_⟩,⟨?_,?_⟩,?_,?_⟩
  ·have h2:x<((256:Nat):Int):=h1
   exact h2
  ·exact Int.le_trans (by decide) (Int.natCast_nonneg _)
  ·exact Int.le_trans (hu _) (by decide)
  ·rw[Int.zero_add];exact Int.le_trans (by decide) (Int.natCast_nonneg _)
  ·rw[Int.zero_add];exact Int.le_trans (hu _) (by decide)
 ·repeat'(first|exact trivial|refine eS rfl ?_|refine AB ?_|refine rX [0,2,4,8,14] hc ?_ ?_|refine rC ?_ ?_<;>intro AA<;>try(cases AA;done))
  refine Bp hc [.tmp 2] rfl (.inl rfl) (.p T3 _) (by simp only[Ut,m5,PF,Us,IC,JD,ID,go_sem,Nat.reduceEqDiff,reduceCtorEq,Nat.reduceAdd,Nat.reduceSub,Nat.reduceMul,Nat.reduceLeDiff,Nat.reduceLT,Int.reduceLE,Int.reduceToNat,Int.reduceNeg,↓reduceIte];rfl) ⟨⟨_,rfl,fun h13=>?_⟩,rfl⟩
  rw[Int.zero_add]
  intro e
  replace e:=Int.ofNat.inj e
  have hk2:x.toNat<256:=by omega
  have hk3:13≤x.toNat:=by omega
  generalize x.toNat=k at *
  clear AA
  exact absurd e (by
   clear e
   revert hk3
   revert hk2
   revert k
   decide)
theorem uJ (x:Int) (h0:0≤x) (h1:x<256):Ca Tryz.prog 71 [.p (.int .u64) x] [] [] (fun res objs'=>(∃n:Int,res=.p T3 n∧(13≤x→n≠0))∧objs'=[]):=by
 refine DJ Tryz.func71 (by kernel_rfl) rfl Tryz.ntmps71 (by simp only[List.length_cons,List.length_nil];omega) (by kernel_rfl) rfl rfl (AH []) AI ?_
 intro w0 K O0 ρ0 hc hok1 hok2
 simp only[BU]
 repeat'(first|exact trivial|refine eS rfl ?_|refine AB ?_|refine rX [0,2] hc ?_ ?_|refine rC ?_ ?_<;>intro AA<;>try(cases AA;done))
 refine cP 1 hc ?_ ?_
 ·trivial
 ·refine rM hc (uI x h0 h1) [] [] ?_ ?_ ?_
  ·first|exact eN|refine eM ?_
  ·first|exact eN|refine eM ?_
  ·rintro _ _ ⟨⟨n,rfl,hnz⟩,rfl⟩
   refine⟨[],.p T3 n,[],rfl,rfl,?_,?_,rfl,rfl,?_⟩
   ·first|exact eN|refine eM ?_
   ·first|exact eN|refine eM ?_
   ·refine Nr [2] hc (by simp only[go_sem,Nat.reduceEqDiff,reduceCtorEq,Nat.reduceAdd,Nat.reduceSub,Nat.reduceMul,Nat.reduceLeDiff,Nat.reduceLT,Int.reduceLE,Int.reduceToNat,Int.reduceNeg,↓reduceIte];rfl) ?_ ?_
    ·trivial
    ·repeat'(first|exact trivial|refine eS rfl ?_|refine AB ?_|refine rX [0,2] hc ?_ ?_|refine rC ?_ ?_<;>intro AA<;>try(cases AA;done))
     exact Bp hc [.tmp 2] rfl (.inl rfl) (.p T3 n) eT ⟨⟨_,rfl,hnz⟩,rfl⟩
end
/- Functions of graph: canonical's search. -/
section
open Go
end
/- Functions of graph: canonical, Sub. -/
section
open Go
end
/- Functions of restrict: part, at its three closures. -/
section
def uK (acc:Int→Int×Int→Bool) (f:List AF) (i:Nat):AF:=((f.getD i (0,[])).1,(f.getD i (0,[])).2.filter (acc (i:Int)))
def FZ (acc:Int→Int×Int→Bool) (f:List AF) (i:Nat):List AF:=(List.range i).map (uK acc f)
def TK (acc:Int→Int×Int→Bool) (f:List AF):List AF:=AX (FZ acc f f.length) 0
theorem It (acc:Int→Int×Int→Bool) (f:List AF) (i:Nat):(FZ acc f i).length=i:=by simp[FZ]
theorem Iu (l:List (Int×Int)):oX l↔l.Pairwise (fun a b=>a.1<b.1):=by
 constructor
 ·intro h
  rw[List.pairwise_iff_getElem]
  have key:∀d i,i+d+1<l.length→(l.getD i (0,0)).1<(l.getD (i+d+1) (0,0)).1:=by
   intro d
   induction d with
   | zero=>intro i hi;exact h i hi
   | succ d ih =>
    intro i hi
    have h1:=ih i (by omega)
    have h2:=h (i+d+1) (by omega)
    have:i+(d+1)+1=i+d+1+1:=by omega
    rw[this]
    omega
  intro i j hi hj hij
  have h1:=key (j-i-1) i (by omega)
  rw[show i+(j-i-1)+1=j by omega]at h1
  simpa[List.getD_eq_getElem?_getD,hi,hj] using h1
 ·intro h i hi
  rw[List.pairwise_iff_getElem]at h
  have:=h i (i+1) (by omega) hi (by omega)
  simpa[List.getD_eq_getElem?_getD,hi,show i<l.length by omega] using this
theorem Ze {l:List (Int×Int)} (h:oX l) (p:Int×Int→Bool):oX (l.filter p):=by
 rw[Iu]at h ⊢
 exact h.sublist List.filter_sublist
theorem Vg {f:List AF} (hf:AY f) (hs:Ew f) (acc:Int→Int×Int→Bool):AY (FZ acc f f.length)∧Ew (FZ acc f f.length):=by
 have hget:∀i,i<f.length→f.getD i (0,[])∈f:=fun i hi=>AD f (0,[]) hi
 refine⟨⟨by rw[It];exact hf.1,fun x hx=>?_⟩,fun x hx=>?_⟩
 ·obtain⟨i,hi,rfl⟩:=List.mem_map.1 hx
  have hi:i<f.length:=List.mem_range.1 hi
  obtain⟨h1,h2⟩:=hf.2 _ (hget i hi)
  rw[It]
  exact⟨Nat.le_trans (List.length_filter_le _ _) h1,fun a ha=>h2 a (List.mem_filter.1 ha).1⟩
 ·obtain⟨i,hi,rfl⟩:=List.mem_map.1 hx
  have hi:i<f.length:=List.mem_range.1 hi
  obtain⟨h1,h2⟩:=hs _ (hget i hi)
  exact⟨Ze h1 _,Nat.le_trans (List.length_filter_le _ _) h2⟩
end
/- What a canonical feature structure is: its arcs ascend. -/
section
theorem Iv {x y:Int} {xs ys:List Int} (h:JT (x :: xs) (y :: ys)=0):x=y∧JT xs ys=0:=by
 simp only[JT]at h
 split at h
 ·cases h
 ·split at h
  ·cases h
  ·exact⟨by omega,h⟩
theorem TL:∀ {l m:List (Int×Int)} {r s:List Int},l.length=m.length→JT (l.flatMap (fun a=>[a.1,a.2])++r) (m.flatMap (fun a=>[a.1,a.2])++s)=0→l=m∧JT r s=0
 | [],[],_,_,_,h=>⟨rfl,by simpa using h⟩
 | [],_ :: _,_,_,hl,_=>by simp at hl
 | _ :: _,[],_,_,hl,_=>by simp at hl
 | (a1,a2) :: l,(b1,b2) :: m,r,s,hl,h=>by
  have h:JT (a1 :: a2 :: (l.flatMap (fun a=>[a.1,a.2])++r)) (b1 :: b2 :: (m.flatMap (fun a=>[a.1,a.2])++s))=0:=by simpa using h
  obtain⟨e1,h3⟩:=Iv h
  obtain⟨e2,h4⟩:=Iv h3
  obtain⟨e3,h5⟩:=TL (l:=l) (m:=m) (by simpa using hl) h4
  exact⟨by rw[e1,e2,e3],h5⟩
theorem TM:∀ {l m:List AF} {r s:List Int},l.length=m.length→JT (l.flatMap TA++r) (m.flatMap TA++s)=0→l=m∧JT r s=0
 | [],[],_,_,_,h=>⟨rfl,by simpa using h⟩
 | [],_ :: _,_,_,hl,_=>by simp at hl
 | _ :: _,[],_,_,hl,_=>by simp at hl
 | (a1,a2) :: l,(b1,b2) :: m,r,s,hl,h=>by
  have h:JT (a1 :: (a2.length:Int) :: (a2.flatMap (fun a=>[a.1,a.2])++(l.flatMap TA++r))) (b1 :: (b2.length:Int) :: (b2.flatMap (fun a=>[a.1,a.2])++(m.flatMap TA++s)))=0:=by simpa[TA] using h
  obtain⟨e1,h3⟩:=Iv h
  obtain⟨e2,h4⟩:=Iv h3
  obtain⟨e3,h5⟩:=TL (l:=a2) (m:=b2) (by omega) h4
  obtain⟨e4,h6⟩:=TM (l:=l) (m:=m) (by simpa using hl) h5
  exact⟨by rw[e1,e3,e4],h6⟩
theorem Kr {a b:List AF} (h:CU a b=0):a=b:=by
 unfold CU Bf at h
 obtain⟨h1,h2⟩:=Iv h
 have:=TM (l:=a) (m:=b) (r:=[]) (s:=[]) (by omega) (by simpa using h2)
 exact this.1
theorem Vh:∀l:List Int,JT l l=0
 | []=>rfl
 | x :: l=>by simp[JT,Vh l]
theorem UU (a:List AF):CU a a=0:=Vh _
/-! The sort ascends -/
theorem Vi (x:Int×Int) (s:List (Int×Int)):∀n,(∀j,Jx x s n≤j→j<n→x.1<(s.getD j (0,0)).1)∧(0<Jx x s n→(s.getD (Jx x s n-1) (0,0)).1≤x.1)
 | 0=>⟨fun j h1 h2=>by omega,fun h=>by simp[Jx]at h⟩
 | n+1=>by
  obtain⟨h1,h2⟩:=Vi x s n
  unfold Jx
  split
  ·rename_i hc
   refine⟨fun j g1 g2=>?_,h2⟩
   by_cases e:j=n
   ·subst e;exact hc
   ·exact h1 j g1 (by omega)
  ·rename_i hc
   exact⟨fun j g1 g2=>by omega,fun _=>by simp only[Nat.add_sub_cancel];omega⟩
theorem A1I {l:List (Int×Int)} (h:l.Pairwise (fun a b=>a.1≤b.1)) {i j:Nat} (hij:i≤j) (hj:j<l.length):(l.getD i (0,0)).1≤(l.getD j (0,0)).1:=by
 rcases Nat.eq_or_lt_of_le hij with rfl|hlt
 ·exact Int.le_refl _
 ·rw[List.pairwise_iff_getElem]at h
  have:=h i j (by omega) hj hlt
  simpa[List.getD_eq_getElem?_getD,hj,show i<l.length by omega] using this
theorem Zf {s:List (Int×Int)} (h:s.Pairwise (fun a b=>a.1≤b.1)) (x:Int×Int):(Pf s x).Pairwise (fun a b=>a.1≤b.1):=by
 obtain⟨h1,h2⟩:=Vi x s s.length
 have hp:=XZ x s s.length
 unfold Pf
 generalize Jx x s s.length=p at *
 rw[List.pairwise_append,List.pairwise_append]
 have hlow:∀a∈s.take p,a.1≤x.1:=fun a ha=>by
  obtain⟨i,hi,rfl⟩:=List.mem_iff_getElem.1 ha
  rw[List.length_take]at hi
  have h3:=A1I h (i:=i) (j:=p-1) (by omega) (by omega)
  have h4:=h2 (by omega)
  have e:(s.take p)[i].1=(s.getD i (0,0)).1:=by simp[List.getD_eq_getElem?_getD,show i<s.length by omega]
  rw[e]
  omega
 have hhigh:∀b∈s.drop p,x.1≤b.1:=fun b hb=>by
  obtain⟨i,hi,rfl⟩:=List.mem_iff_getElem.1 hb
  rw[List.length_drop]at hi
  have h3:=h1 (p+i) (by omega) (by omega)
  have e:(s.drop p)[i].1=(s.getD (p+i) (0,0)).1:=by simp[List.getD_eq_getElem?_getD,show p+i<s.length by omega]
  rw[e]
  omega
 refine⟨⟨h.sublist (List.take_sublist _ _),by simp,fun a ha b hb=>?_⟩,h.sublist (List.drop_sublist _ _),fun a ha b hb=>?_⟩
 ·have:b=x:=by simpa using hb
  rw[this]
  exact hlow a ha
 ·rcases List.mem_append.1 ha with ha|ha
  ·exact Int.le_trans (hlow a ha) (hhigh b hb)
  ·have:a=x:=by simpa using ha
   rw[this]
   exact hhigh b hb
theorem TN (l:List (Int×Int)):(Ay l).Pairwise (fun a b=>a.1≤b.1):=by
 induction l using ME with
 | h0=>exact List.Pairwise.nil
 | h1 l a ih=>rw[JU];exact Zf ih a
theorem Qo {n:Int}:∀ {l seen:List (Int×Int)},OQ n seen l=0→(l.map (·.1)).Nodup∧∀a∈l,∀b∈seen,b.1≠a.1
 | [],_,_=>⟨by simp,fun a ha=>by cases ha⟩
 | x :: l,seen,h=>by
  simp only[OQ]at h
  split at h
  ·cases h
  ·split at h
   ·cases h
   ·rename_i h1 h2
    obtain⟨g1,g2⟩:=Qo h
    have h2:∀b∈seen,b.1≠x.1:=fun b hb e=>h2 (List.any_eq_true.2 ⟨b,hb,by simp[e]⟩)
    refine⟨?_,fun a ha b hb=>?_⟩
    ·rw[List.map_cons,List.nodup_cons]
     refine⟨fun hm=>?_,g1⟩
     obtain⟨a,ha,e⟩:=List.mem_map.1 hm
     exact g2 a ha x (by simp) e.symm
    ·rcases List.mem_cons.1 ha with rfl|ha
     ·exact h2 b hb
     ·exact g2 a ha b (by simp[hb])
theorem TP {m:Int}:∀ {f:List AF},Jq m f=0→∀x∈f,Ir x.2 m=0
 | [],_,x,hx=>by cases hx
 | y :: f,h,x,hx=>by
  simp only[Jq]at h
  split at h
  ·cases h
  ·split at h
   ·rename_i h1 h2;exact absurd h h2
   ·rename_i h1 h2
    rcases List.mem_cons.1 hx with rfl|hx
    ·exact Classical.byContradiction h2
    ·exact TP h x hx
theorem o0 {l:List (Int×Int)} (h:l.Pairwise (fun a b=>a.1≤b.1)) (hn:(l.map (·.1)).Nodup):l.Pairwise (fun a b=>a.1<b.1):=by
 rw[List.Nodup,List.pairwise_map]at hn
 refine(h.and hn).imp fun {a b} hab=>?_
 have h1:=hab.1
 have h2:¬a.1=b.1:=hab.2
 omega
theorem HV {f:List AF} (h:BB f=true):AY f∧Ew f∧0<f.length∧GR f=true:=by
 unfold BB at h
 simp only[Bool.and_eq_true,beq_iff_eq]at h
 obtain⟨⟨hl,_⟩,hc,he⟩:=h
 obtain⟨hl1,hl2⟩:=Hx hl
 have hsa:TF f:=fun x hx=>Nat.le_trans (hl2 x hx) (by omega)
 have hform:D7 f=0:=by
  unfold B4 at hc
  split at hc
  ·assumption
  ·exact hc
 obtain⟨hg,h0⟩:=Mz hform hsa
 have hcf:(B4 f).1=MB f 0:=by unfold B4;rw[if_pos hform]
 rw[hcf]at he
 have hfe:=Kr he
 refine⟨hg,fun x hx=>⟨?_,Nat.le_trans (hl2 x hx) (by omega)⟩,h0,hl⟩
 rw[←hfe]at hx
 obtain⟨n,_,rfl⟩:=List.mem_map.1 hx
 rw[Iu]
 have harcs:((f.getD n.toNat (0,[])).2.map (·.1)).Nodup:=by
  by_cases hlt:n.toNat<f.length
  ·have hm:f.getD n.toNat (0,[])∈f:=AD f (0,[]) hlt
   have hfg:Jq f.length f=0:=by
    unfold D7 at hform
    split at hform
    ·cases hform
    ·split at hform
     ·cases hform
     ·exact hform
   exact(Qo (TP hfg _ hm)).1
  ·rw[List.getD_eq_getElem?_getD,List.getElem?_eq_none (by omega)]
   simp
 have hst:=o0 (TN (f.getD n.toNat (0,[])).2) (((OW _).map (·.1)).nodup_iff.2 harcs)
 unfold MA
 simp only
 rw[List.pairwise_map]
 exact hst.imp fun hab=>hab
end
/- Plain: the breadth-first search of grammarlabref08.First. -/
section
abbrev Qp:=List (List Int)×List Bool×List Int
def CF (n:Int) (s:Qp) (a:Int×Int):Qp :=
 if s.2.1.getD a.2.toNat false=true then s else (s.1.set a.2.toNat (s.1.getD n.toNat []++[a.1]),s.2.1.set a.2.toNat true,s.2.2++[a.2])
def uL (f:List AF) (s:Qp) (n:Int):Qp:=(f.getD n.toNat (0,[])).2.foldl (CF n) s
def o4 (f:List AF):Nat→Nat→Qp→Qp
 | 0,_,s=>s
 | k+1,i,s=>if i<s.2.2.length then o4 f k (i+1) (uL f s (s.2.2.getD i 0)) else s
def GG (m:Nat):Qp:=(List.replicate m [],(List.replicate m false).set 0 true,[0])
def Aj (f:List AF):List (List Int):=(o4 f f.length 0 (GG f.length)).1
def M0 (l:List Bool):Nat:=l.countP (fun b=>!b)
structure BOk (f:List AF) (s:Qp):Prop where
 l1:s.1.length=f.length
 l2:s.2.1.length=f.length
 cnt:s.2.2.length+M0 s.2.1≤f.length
 rng:∀x∈s.2.2,0≤x∧x<(f.length:Int)
 pl:∀p∈s.1,p.length≤s.2.2.length
theorem TQ {l:List Bool} {n:Nat} (hn:n<l.length) (h:l.getD n false=false):M0 (l.set n true)+1=M0 l:=by
 induction l generalizing n with
 | nil=>simp at hn
 | cons x r ih =>
  cases n with
  | zero =>
   have hx:x=false:=by simpa using h
   simp[M0,List.countP_cons,hx]
  | succ n =>
   have h1:=ih (n:=n) (by simpa using hn) (by simpa using h)
   simp only[M0,List.set_cons_succ,List.countP_cons]at h1 ⊢
   omega
theorem TR {s:List (List Int)} {m:Nat} (h:∀p∈s,p.length≤m) (n:Nat):(s.getD n []).length≤m:=by
 by_cases hn:n<s.length
 ·rw[List.getD_eq_getElem?_getD,List.getElem?_eq_getElem hn]
  exact h _ (List.getElem_mem hn)
 ·rw[List.getD_eq_getElem?_getD,List.getElem?_eq_none (by omega)]
  simp
theorem lK {f:List AF} {s:Qp} (h:BOk f s) {n:Int} {a:Int×Int} (h0:0≤a.2) (h1:a.2<f.length):BOk f (CF n s a):=by
 unfold CF
 split
 ·exact h
 ·rename_i hc
  have hc:s.2.1.getD a.2.toNat false=false:=by simpa using hc
  have h2:=TQ (l:=s.2.1) (n:=a.2.toNat) (by rw[h.l2];omega) hc
  have hcn:=h.cnt
  refine⟨by simpa using h.l1,by simpa using h.l2,?_,fun x hx=>?_,fun p hp=>?_⟩
  ·simp only[List.length_append,List.length_singleton];omega
  ·rcases List.mem_append.1 hx with hx|hx
   ·exact h.rng x hx
   ·have:x=a.2:=by simpa using hx
    subst this;exact⟨h0,h1⟩
  ·simp only[List.length_append,List.length_singleton]
   rcases List.mem_or_eq_of_mem_set hp with hp|rfl
   ·exact Nat.le_succ_of_le (h.pl p hp)
   ·have:=TR h.pl n.toNat
    simp only[List.length_append,List.length_singleton];omega
theorem lL {f:List AF} {n:Int}:∀ {l:List (Int×Int)} {s:Qp},(∀a∈l,0≤a.2∧a.2<(f.length:Int))→BOk f s→BOk f (l.foldl (CF n) s)
 | [],_,_,h=>h
 | a :: l,s,hl,h=>by
  have:=hl a (by simp)
  have h2:=lL (n:=n) (l:=l) (fun b hb=>hl b (by simp[hb])) (lK (n:=n) h this.1 this.2)
  exact h2
theorem JY {f:List AF} (hf:AY f) {n:Int} {a:Int×Int} (ha:a∈(f.getD n.toNat (0,[])).2):0≤a.2∧a.2<f.length:=by
 by_cases h:n.toNat<f.length
 ·have hm:f.getD n.toNat (0,[])∈f:=by
   rw[List.getD_eq_getElem?_getD,List.getElem?_eq_getElem h];exact List.getElem_mem h
  exact(hf.2 _ hm).2 a ha
 ·rw[List.getD_eq_getElem?_getD,List.getElem?_eq_none (by omega)]at ha
  simp at ha
theorem lM {f:List AF} (h:0<f.length):BOk f (GG f.length):=by
 refine⟨by simp[GG],by simp[GG],?_,fun x hx=>?_,fun p hp=>?_⟩
 ·have h2:=TQ (l:=List.replicate f.length false) (n:=0) (by simpa using h) (by simp[List.getD_eq_getElem?_getD,h])
  have h3:M0 (List.replicate f.length false)=f.length:=by simp[M0,List.countP_replicate]
  simp only[GG,List.length_singleton]
  omega
 ·have:x=0:=by simpa[GG] using hx
  subst this;omega
 ·have:p=[]:=by
   have:=List.eq_of_mem_replicate (by simpa[GG] using hp:p∈List.replicate f.length [])
   exact this
  subst this;simp
theorem uM {n:Int} {s:Qp} {a:Int×Int} {i:Nat} (h:i<s.2.2.length):i<(CF n s a).2.2.length∧(CF n s a).2.2.getD i 0=s.2.2.getD i 0:=by
 unfold CF
 split
 ·exact⟨h,rfl⟩
 ·refine⟨by simp only[List.length_append];omega,?_⟩
  simp only[List.getD_eq_getElem?_getD]
  rw[List.getElem?_append_left h]
theorem TS {n:Int} {i:Nat}:∀ {l:List (Int×Int)} {s:Qp},i<s.2.2.length→i<(l.foldl (CF n) s).2.2.length∧(l.foldl (CF n) s).2.2.getD i 0=s.2.2.getD i 0
 | [],_,h=>⟨h,rfl⟩
 | a :: l,s,h=>by
  have h1:=uM (n:=n) (a:=a) h
  have h2:=TS (n:=n) (l:=l) h1.1
  exact⟨h2.1,h2.2.trans h1.2⟩
theorem Xd {f:List AF} {k i:Nat} {s:Qp} (h:s.2.2.length≤i):o4 f k i s=s:=by
 cases k with
 | zero=>rfl
 | succ k=>simp only[o4];rw[if_neg (by omega)]
theorem Zg {f:List AF} {m i:Nat} {s:Qp} (h:i<s.2.2.length) (hm:s.2.2.length≤m):o4 f (m-i) i s=o4 f (m-(i+1)) (i+1) (uL f s (s.2.2.getD i 0)):=by
 obtain⟨k,hk⟩:∃k,m-i=k+1:=⟨m-i-1,by omega⟩
 have e:m-(i+1)=k:=by omega
 rw[hk,e]
 simp only[o4]
 rw[if_pos h]
end
/- Functions of path: Clone, firsts, First. -/
section
def Xe:Ac:={ ins:=[Bx],pre:=fun(l,_)=>List.length l≤100000,out:=fun(l,_)=>[.own 3 T3 l] }
theorem uN:Ai Tryz.prog 102 Xe:=by
 refine AP Tryz.func102 (by kernel_rfl) rfl Tryz.ntmps102 (by decide) (by kernel_rfl) (AH []) AI ?_
 rintro w0 O0 ⟨l,u⟩ hc-hl
 have hl:List.length l≤100000:=hl
 simp only[Xe,AM]
 repeat'(first|exact trivial|refine eS rfl ?_|refine AB ?_|refine rX [0,2,4] hc ?_ ?_|refine rC ?_ ?_<;>intro AA<;>try(cases AA;done))
 refine cP 1 hc ?_ ?_
 ·trivial
 ·refine nW hc false rfl rfl ?_
  intro b hb
  refine rL [0,4] hc ?_ ?_
  ·trivial
  ·repeat'(first|exact trivial|refine eS rfl ?_|refine AB ?_|refine rX [0,2,4] hc ?_ ?_|refine rC ?_ ?_<;>intro AA<;>try(cases AA;done))
   ·have hl0:l=[]:=hb AA
    subst hl0
    refine Ev.ent (σ':=⟨[(2,.sr 5 T3 0 0)],[(5,.arr 3 T3 [])]⟩) ?_ (AC [(5,.nil)] rfl rfl ?_ ?_)
    ·exact MW hc (.inl rfl) (rv:=.tmp 2) rfl (by simp only[Jj,IC,Gu,go_sem,Nat.reduceEqDiff,reduceCtorEq,Nat.reduceAdd,Nat.reduceSub,Nat.reduceMul,Nat.reduceLeDiff,Nat.reduceLT,Int.reduceLE,Int.reduceToNat,Int.reduceNeg,↓reduceIte])
    ·first|exact eN|refine eM ?_
    ·first|exact eN|refine eM ?_
   ·simp only[AO];omega
   ·exact MW hc (.inl rfl) (rv:=.tmp 2) rfl (by simp only[Jj,IC,Gu,go_sem,Nat.reduceEqDiff,reduceCtorEq,Nat.reduceAdd,Nat.reduceSub,Nat.reduceMul,Nat.reduceLeDiff,Nat.reduceLT,Int.reduceLE,Int.reduceToNat,Int.reduceNeg,↓reduceIte])
/-! The plain law -/
def DV (f:List AF):Nat→Qp
 | 0=>GG f.length
 | i+1=>uL f (DV f i) ((DV f i).2.2.getD i 0)
def EB (f:List AF) (i:Nat):Int:=(DV f i).2.2.getD i 0
def lN (f:List AF) (i:Nat):List Int:=(DV f i).1.getD (EB f i).toNat []
def M2 (f:List AF):Nat→List (List Int)
 | 0=>List.replicate f.length []
 | i+1=>(M2 f i).set (EB f i).toNat (lN f i)
structure BI (f:List AF) (s:Qp):Prop where
 ok:BOk f s
 mem:∀x,x<f.length→(s.2.1.getD x false=true↔(x:Int)∈s.2.2)
 emp:∀x:Nat,(x:Int)∉s.2.2→s.1.getD x []=[]
theorem getD_set_ne {α:Type} (l:List α) (d v:α) {i j:Nat} (h:i≠j):(l.set i v).getD j d=l.getD j d:=by
 simp only[List.getD_eq_getElem?_getD];rw[List.getElem?_set_ne h]
theorem CN {α:Type} (l:List α) (d v:α) {i:Nat} (h:i<l.length):(l.set i v).getD i d=v:=by
 simp only[List.getD_eq_getElem?_getD];rw[List.getElem?_set_self h];rfl
theorem Xf {f:List AF} {s:Qp} (h:BI f s) {n:Int} {a:Int×Int} (h0:0≤a.2) (h1:a.2<f.length) :
  BI f (CF n s a)∧s.2.2 <+: (CF n s a).2.2∧∀x∈s.2.2,(CF n s a).1.getD x.toNat []=s.1.getD x.toNat []:=by
 have hok:=lK (n:=n) h.ok h0 h1
 have hl1:=h.ok.l1
 have hl2:=h.ok.l2
 unfold CF at hok ⊢
 split at hok
 ·rename_i hc
  rw[if_pos hc]
  exact⟨h,List.prefix_refl _,fun _ _=>rfl⟩
 ·rename_i hc
  rw[if_neg hc]
  have hna:a.2∉s.2.2:=fun hm=>hc ((h.mem a.2.toNat (by omega)).2 (by rw[show ((a.2.toNat:Nat):Int)=a.2 by omega];exact hm))
  refine⟨⟨hok,fun x hx=>?_,fun x hx=>?_⟩,List.prefix_append _ _,fun x hx=>?_⟩
  ·by_cases e:a.2.toNat=x
   ·subst e
    simp only
    rw[CN _ _ _ (by omega)]
    constructor
    ·intro _;rw[show ((a.2.toNat:Nat):Int)=a.2 by omega];simp
    ·intro _;rfl
   ·simp only
    rw[getD_set_ne _ _ _ e,h.mem x hx]
    have:¬(x:Int)=a.2:=by omega
    simp[this]
  ·have hx1:(x:Int)∉s.2.2∧¬(x:Int)=a.2:=by simpa using hx
   simp only
   rw[getD_set_ne _ _ _ (by omega)]
   exact h.emp x hx1.1
  ·have hr:=h.ok.rng x hx
   have:¬a.2=x:=fun e=>hna (by rw[e];exact hx)
   simp only
   rw[getD_set_ne _ _ _ (by omega)]
theorem Le {f:List AF} {n:Int}:∀ {l:List (Int×Int)} {s:Qp},(∀a∈l,0≤a.2∧a.2<(f.length:Int))→BI f s →
  BI f (l.foldl (CF n) s)∧s.2.2 <+: (l.foldl (CF n) s).2.2∧∀x∈s.2.2,(l.foldl (CF n) s).1.getD x.toNat []=s.1.getD x.toNat []
 | [],_,_,h=>⟨h,List.prefix_refl _,fun _ _=>rfl⟩
 | a :: l,s,hl,h=>by
  have q:=hl a (by simp)
  obtain⟨g1,g2,g3⟩:=Xf (n:=n) h q.1 q.2
  obtain⟨i1,i2,i3⟩:=Le (n:=n) (l:=l) (fun b hb=>hl b (by simp[hb])) g1
  exact⟨i1,g2.trans i2,fun x hx=>(i3 x (g2.subset hx)).trans (g3 x hx)⟩
theorem A0o {f:List AF} (h:0<f.length):BI f (GG f.length):=by
 refine⟨lM h,fun x hx=>?_,fun x _=>?_⟩
 ·by_cases e:x=0
  ·subst e
   simp only[GG]
   rw[CN _ _ _ (by simpa using h)]
   simp
  ·simp only[GG]
   rw[getD_set_ne _ _ _ (fun e'=>e e'.symm)]
   have:¬(x:Int)=0:=by omega
   simp[List.getD_eq_getElem?_getD,List.getElem?_replicate,hx,this,e]
 ·simp only[GG,List.getD_eq_getElem?_getD,List.getElem?_replicate]
  split<;>rfl
theorem IQ {f:List AF} (hf:AY f) (h0:0<f.length):∀i,BI f (DV f i)
 | 0=>A0o h0
 | i+1=>(Le (fun a ha=>JY hf ha) (IQ hf h0 i)).1
theorem Ks (f:List AF):∀i,(M2 f i).length=f.length
 | 0=>by simp[M2]
 | i+1=>by simp[M2,Ks f i]
theorem Zh {f:List AF} (hf:AY f) (h0:0<f.length):∀i,(∀j,j<i→j<(DV f j).2.2.length)→∀x:Nat,(M2 f i).getD x []=if (x:Int)∈(DV f i).2.2.take i then (DV f i).1.getD x [] else []
 | 0,_,x=>by
  simp only[M2,List.take_zero,List.not_mem_nil,if_false,List.getD_eq_getElem?_getD,List.getElem?_replicate]
  split<;>rfl
 | i+1,hj,x=>by
  have ih:=Zh hf h0 i (fun j hji=>hj j (by omega)) x
  have hi:=hj i (by omega)
  have hbi:=IQ hf h0 i
  obtain⟨g1,g2,g3⟩:=Le (n:=EB f i) (l:=(f.getD (EB f i).toNat (0,[])).2) (fun a ha=>JY hf ha) hbi
  have e1:DV f (i+1)=(f.getD (EB f i).toNat (0,[])).2.foldl (CF (EB f i)) (DV f i):=rfl
  rw[←e1]at g1 g2 g3
  have htk:(DV f (i+1)).2.2.take (i+1)=(DV f i).2.2.take i++[EB f i]:=by
   obtain⟨t,ht⟩:=g2
   rw[←ht,List.take_append_of_le_length (by omega),Ae _ (0:Int) hi]
   rfl
  have hmem:EB f i∈(DV f i).2.2:=AD _ 0 hi
  have hr:=hbi.ok.rng _ hmem
  rw[htk]
  simp only[M2]
  by_cases e:(EB f i).toNat=x
  ·subst e
   rw[CN _ _ _ (by rw[Ks];omega),show (((EB f i).toNat:Nat):Int)=EB f i by omega,if_pos (by simp),g3 _ hmem]
   rfl
  ·rw[getD_set_ne _ _ _ e,ih]
   have hne:¬(x:Int)=EB f i:=by omega
   by_cases hx:(x:Int)∈(DV f i).2.2.take i
   ·rw[if_pos hx,if_pos (by simp[hx])]
    have:=g3 _ (List.mem_of_mem_take hx)
    rw[show ((x:Int)).toNat=x by omega]at this
    exact this.symm
   ·rw[if_neg hx,if_neg (by simp[hx,hne])]
theorem Xg {f:List AF} (hf:AY f) (h0:0<f.length):∀i,(∀j,j<i→j<(DV f j).2.2.length)→o4 f (f.length-i) i (DV f i)=o4 f f.length 0 (GG f.length)
 | 0,_=>rfl
 | i+1,hj=>by
  rw[←Xg hf h0 i (fun j hji=>hj j (by omega))]
  have hb:=(IQ hf h0 i).ok
  have:=hb.cnt
  exact(Zg (hj i (by omega)) (by omega)).symm
theorem TT {f:List AF} (hf:AY f) (h0:0<f.length) {n:Nat} (hj:∀j,j<n→j<(DV f j).2.2.length) (hn:(DV f n).2.2.length≤n):M2 f n=Aj f:=by
 have e:Aj f=(DV f n).1:=by
  unfold Aj
  rw[←Xg hf h0 n hj,Xd hn]
 have hb:=IQ hf h0 n
 rw[e]
 apply List.ext_getElem
 ·rw[Ks,hb.ok.l1]
 ·intro x h1 h2
  have hg:=Zh hf h0 n hj x
  rw[List.take_of_length_le hn]at hg
  have e1:(M2 f n).getD x []=(M2 f n)[x]:=by simp[List.getD_eq_getElem?_getD,h1]
  have e2:(DV f n).1.getD x []=(DV f n).1[x]:=by simp[List.getD_eq_getElem?_getD,h2]
  rw[←e1,←e2,hg]
  split
  ·rfl
  ·rename_i hx;exact(hb.emp x hx).symm
end
/- Functions of path: firsts, First. -/
section
attribute [local go_sem] Xe
theorem o5 (f:List AF):Ca Tryz.prog 69 [.p FW f] [] [] (fun res objs'=>res=.clo 101 [1]∧objs'=[(1,.box 24 true [.p Jm f])]):=by
 refine DJ Tryz.func69 (by kernel_rfl) rfl Tryz.ntmps69 (by simp only[List.length_cons,List.length_nil];omega) (by kernel_rfl) rfl rfl (AH []) AI ?_
 intro w0 K O0 ρ0 hc hok1 hok2
 simp only[BU]
 repeat'(first|exact trivial|refine eS rfl ?_|refine AB ?_|refine rX [0,1,2] hc ?_ ?_|refine rC ?_ ?_<;>intro AA<;>try(cases AA;done))
 exact Bp hc [.tmp 2] rfl (.inl rfl) (.clo 101 [1]) eT ⟨rfl,rfl⟩
def Db (f:List AF) (L:Go.Loop) (tm:Array Value) (i:Nat):List (Nat×Obj):=[(50,.box 24 true [.p Jm f]),(101,.loop L),(102,.frame tm [(3,.bp 3 [] 0)]),(3,.box 25 false [.sr 9 Bx 0 f.length]),(9,.arr 30 Bx (M2 f i))]
def Dn (s:Qp):List (List Int):=s.2.2.map fun n=>s.1.getD n.toNat []
theorem Kt (s:Qp):(Dn s).length=s.2.2.length:=by simp[Dn]
theorem Qq {s:Qp} {i:Nat} (h:i<s.2.2.length):(Dn s).getD i []=s.1.getD (s.2.2.getD i 0).toNat []:=by
 simp[Dn,List.getD_eq_getElem?_getD,h]
theorem dH (f:List AF) (hf:AY f) (h0:0<f.length) (L:Go.Loop) (tm:Array Value)
  (hY:∀i,i<(DV f i).2.2.length→Yl Tryz.prog 101 [.p T3 (EB f i),.p Bx (lN f i)] (Db f L tm i) [50,101,102,3] (fun res objs'=>res=.p .bool true∧objs'=Db f L tm (i+1))) :
  Ca Tryz.prog 101 [.yl 101,.bp 50 [] 0] (Db f L tm 0) [50,101,102,3] (fun res objs'=>res=.raw (.tuple #[])∧∃N,objs'=Db f L tm N∧M2 f N=Aj f):=by
 refine DJ Tryz.func101 (by kernel_rfl) rfl Tryz.ntmps101 (by simp only[List.length_cons,List.length_nil];omega) (by kernel_rfl) rfl rfl (AH [(102,Xe)]) (AE uN AI) ?_
 intro w0 K O0 ρ0 hc hok1 hok2
 simp only[BU,Db]
 have hfl:=hf.1
 repeat'(first|exact trivial|refine eS rfl ?_|refine AB ?_|refine rX [0,1,3,4,5,6,8,20,33,42,43,44,45,53] hc ?_ ?_|refine rC ?_ ?_<;>intro AA<;>try(cases AA;done))
 ·simp only[AO];omega
 ·exact eV
 ·have hbi:=fun i=>IQ hf h0 i
  have hy:=hY
  clear hY
  refine AK (ι:={i:Nat // ∀j,j<i→j<(DV f j).2.2.length}) (fun i=>⟨[(0,.yl 101),(1,.bp 50 [] 0),(3,.sr 12 T4 0 (DV f i.1).2.1.length),(4,.sr 15 T3 0 (DV f i.1).2.2.length),(5,.sr 16 Bx 0 (Dn (DV f i.1)).length),(6,.p (.int .i64) (i.1:Int))],(12,.arr 4 T4 (DV f i.1).2.1) :: (15,.arr 3 T3 (DV f i.1).2.2) :: (16,.arr 30 Bx (Dn (DV f i.1))) :: Db f L tm i.1⟩) (fun i=>f.length+1-i.1) ⟨0,fun j hj=>by omega⟩ (AC [(12,.nm 12),(15,.nm 15),(16,.nm 16),(50,.nm 50),(101,.nm 101),(102,.nm 102),(3,.nm 3),(9,.nm 9)] rfl rfl ?_ ?_) (fun i=>?_)
  ·simp only[Db,DV,GG,Dn]
   first|exact eN|refine eM ?_
   simp[List.getD_eq_getElem?_getD,List.getElem?_replicate,h0]
  ·simp only[DV,GG,Dn,List.length_map]
   first|exact eN|refine eM ?_
   simp
  ·obtain⟨i,hi⟩:=i
   have hib:i≤f.length:=by
    cases i with
    | zero=>omega
    | succ i =>
     have h1:=hi i (by omega)
     have h2:=(hbi i).ok.cnt
     omega
   have hb:=hbi i
   have hyi:=hy i
   have hnx:DV f (i+1)=(f.getD (EB f i).toNat (0,[])).2.foldl (CF (EB f i)) (DV f i):=rfl
   have hnode:EB f i=(DV f i).2.2.getD i 0:=rfl
   have hpath:lN f i=(DV f i).1.getD (EB f i).toNat []:=rfl
   generalize hs:DV f i=s at *
   have hpl:=Kt s
   have hcn:=hb.ok.cnt
   simp only[Db]
   repeat'(first|exact trivial|refine eS rfl ?_|refine AB ?_|refine rX [0,1,3,4,5,6,8,20,33,42,43,44,45,53] hc ?_ ?_|refine rC ?_ ?_<;>intro AA<;>try(cases AA;done))
   ·have hil:i<s.2.2.length:=by exact eV
    refine cD 9 hc ?_ ?_
    ·exact⟨by exact eV,by rw[hpl];exact eV⟩
    ·rw[Qq hil,←hnode,←hpath]
     refine rY 101 101 hc (hyi hil) [(50,.nm 50),(101,.nm 101),(102,.nm 102),(3,.nm 3),(9,.nm 9)] [9] ?_ ?_ ?_
     ·first|exact eN|refine eM ?_
     ·simp only[Db]
      first|exact eN|refine eM ?_
     ·rintro _ _ ⟨rfl,rfl⟩
      refine⟨[(50,.nm 50),(101,.nm 101),(102,.nm 102),(3,.nm 3),(9,.nm 9)],.p .bool true,Db f L tm (i+1),rfl,rfl,?_,?_,rfl,rfl,?_⟩
      ·simp only[Db]
       first|exact eN|refine eM ?_
      ·first|exact eN|refine eM ?_
      ·simp only[Db]
       refine rL [0,1,3,4,5,6,33] hc ?_ ?_
       ·trivial
       ·have hnm:=AD s.2.2 0 hil
        have hnr:=hb.ok.rng _ hnm
        have hpre:=fun l=>TS (n:=EB f i) (i:=i) (l:=l) (s:=s) hil
        have hLlen:=HR hf (EB f i)
        have hfold:=fun l (hl:∀a∈l,0≤a.2∧a.2<(f.length:Int))=>Le (n:=EB f i) (l:=l) hl hb
        have hLin:=fun a (ha:a∈(f.getD (EB f i).toNat (0,[])).2)=>JY hf ha
        rw[hnode]at hnx hpre hLlen hfold hLin
        generalize hnn:s.2.2.getD i 0=n at *
        repeat'(first|exact trivial|refine eS rfl ?_|refine AB ?_|refine rX [0,1,3,4,5,6,8,20,33,42,43,44,45,53] hc ?_ ?_|refine rC ?_ ?_<;>intro AA<;>try(cases AA;done))
        ·exact⟨by exact eV,by rw[hnn];exact hnr⟩
        ·simp only[hnn]
         generalize hL2:(f.getD n.toNat (0,[])).2=L2 at *
         have hpl:=Kt s
         refine AK (ι:={k:Nat//k≤L2.length}) (fun k=>⟨[(0,.yl 101),(1,.bp 50 [] 0),(3,.sr 12 T4 0 ((L2.take k.1).foldl (CF n) s).2.1.length),(4,.sr 15 T3 0 ((L2.take k.1).foldl (CF n) s).2.2.length),(5,.sr 16 Bx 0 (Dn ((L2.take k.1).foldl (CF n) s)).length),(6,.p (.int .i64) (i:Int)),(42,.p Ee L2),(43,.p (.int .i64) (L2.length:Int)),(44,.p (.int .i64) (k.1:Int))],(12,.arr 4 T4 ((L2.take k.1).foldl (CF n) s).2.1) :: (15,.arr 3 T3 ((L2.take k.1).foldl (CF n) s).2.2) :: (16,.arr 30 Bx (Dn ((L2.take k.1).foldl (CF n) s))) :: Db f L tm (i+1)⟩) (fun k=>L2.length-k.1) ⟨0,by omega⟩ (AC [(12,.nm 12),(15,.nm 15),(16,.nm 16),(50,.nm 50),(101,.nm 101),(102,.nm 102),(3,.nm 3),(9,.nm 9)] rfl rfl ?_ ?_) (fun k=>?_)
         ·simp only[Db,List.take_zero,List.foldl_nil]
          first|exact eN|refine eM ?_
         ·simp only[List.take_zero,List.foldl_nil]
          first|exact eN|refine eM ?_
         ·obtain⟨k,hk⟩:=k
          obtain⟨hbk,hpk2,hok2⟩:=hfold (L2.take k) (fun a ha=>hLin a (List.mem_of_mem_take ha))
          have hpk:=hpre (L2.take k)
          have hnext:=fun(h:k<L2.length)=>Ld (CF n) L2 (0,0) s h
          simp only
          generalize hsk:(L2.take k).foldl (CF n) s=sk at *
          have hplk:=Kt sk
          have hcnk:=hbk.ok.cnt
          have hto:∀(h:k<L2.length),0≤(L2.getD k (0,0)).2∧(L2.getD k (0,0)).2<(sk.2.1.length:Int):=fun h=>by
           have h1:=hLin _ (AD L2 (0,0) h)
           have h2:=hbk.ok.l2
           omega
          simp only[Db]
          repeat'(first|exact trivial|refine eS rfl ?_|refine AB ?_|refine rX [0,1,3,4,5,6,8,20,33,42,43,44,45,53] hc ?_ ?_|refine rC ?_ ?_<;>intro AA<;>try(cases AA;done))
          ·exact eV
          ·exact hto (by exact eV)
          ·exact hto (by exact eV)
          ·simp only[AO];omega
          ·have hkL:k<L2.length:=by exact eV
           have hst:(L2.take (k+1)).foldl (CF n) s=(sk.1.set (L2.getD k (0,0)).2.toNat (sk.1.getD n.toNat []++[(L2.getD k (0,0)).1]),sk.2.1.set (L2.getD k (0,0)).2.toNat true,sk.2.2++[(L2.getD k (0,0)).2]):=by
            rw[hnext hkL]
            unfold CF
            rw[if_neg (by rw[AA];simp)]
           have hna:(L2.getD k (0,0)).2∉sk.2.2:=fun hm=>by
            have h1:=hto hkL
            have h2:=hbk.ok.l2
            have h3:=(hbk.mem (L2.getD k (0,0)).2.toNat (by omega)).2 (by rw[show (((L2.getD k (0,0)).2.toNat:Nat):Int)=(L2.getD k (0,0)).2 by omega];exact hm)
            rw[AA]at h3
            cases h3
           have hget:(Dn sk).getD i []=sk.1.getD n.toNat []:=by
            rw[Qq hpk.1,hpk.2]
           have hgl:=TR hbk.ok.pl n.toNat
           have hps:Dn ((L2.take (k+1)).foldl (CF n) s)=Dn sk++[sk.1.getD n.toNat []++[(L2.getD k (0,0)).1]]:=by
            rw[hst]
            unfold Dn
            simp only[List.map_append,List.map_cons,List.map_nil]
            congr 1
            ·refine List.map_congr_left fun x hx=>?_
             have h1:=hbk.ok.rng x hx
             have h2:¬(L2.getD k (0,0)).2=x:=fun e=>hna (by rw[e];exact hx)
             have h3:=hto hkL
             rw[getD_set_ne _ _ _ (by omega)]
            ·have h1:=hto hkL
             have h2:=hbk.ok.l2
             have h3:=hbk.ok.l1
             rw[CN _ _ _ (by omega)]
           refine IH drawsAny hc 12 [([1,2,3,4,5,6,7,8],9),([],10),([0],11)] [] (by kernel_rfl) (UN ?_ ?_)
           ·rw[hget,hplk]
            exact⟨Int.ofNat_lt.2 hpk.1,Nat.le_trans hgl (by omega)⟩
           ·refine Xw hc [68] ?_ ?_
            ·rw[hget]
             simp only[AO];omega
            ·refine UN ?_ ?_
             ·trivial
             ·refine Xw hc [68] ?_ ?_
              ·trivial
              ·refine UN ?_ ?_
               ·trivial
               ·refine Xw hc [16] ?_ ?_
                ·simp only[AO];omega
                ·refine wM [0,1,3,4,5,6,8,20,33,42,43,44,45,53] hc ?_ ?_ ?_
                 ·trivial
                 ·trivial
                 ·repeat'(first|exact trivial|refine eS rfl ?_|refine AB ?_|refine rX [0,1,3,4,5,6,8,20,33,42,43,44,45,53] hc ?_ ?_|refine rC ?_ ?_<;>intro AA<;>try(cases AA;done))
                  ·exact eV
                  ·refine⟨⟨k+1,by omega⟩,by simp only;omega,AC [(12,.nm 12),(15,.nm 15),(16,.nm 16),(50,.nm 50),(101,.nm 101),(102,.nm 102),(3,.nm 3),(9,.nm 9)] rfl rfl ?_ ?_⟩
                   ·simp only[hps]
                    rw[hst]
                    first|exact eN|refine eM ?_
                    rw[hget]
                   ·simp only[hps]
                    rw[hst]
                    first|exact eN|refine eM ?_
                    simp
          ·exact eV
          ·have hkL:k<L2.length:=by exact eV
           have hst:(L2.take (k+1)).foldl (CF n) s=sk:=by
            rw[hnext hkL]
            unfold CF
            rw[if_pos (by rw[AA])]
           refine⟨⟨k+1,by omega⟩,by simp only;omega,AC [(12,.nm 12),(15,.nm 15),(16,.nm 16),(50,.nm 50),(101,.nm 101),(102,.nm 102),(3,.nm 3),(9,.nm 9)] rfl rfl ?_ ?_⟩
           ·simp only
            rw[hst]
            first|exact eN|refine eM ?_
           ·simp only
            rw[hst]
            first|exact eN|refine eM ?_
          ·exact eV
          ·have hkL:L2.take k=L2:=List.take_of_length_le (by exact eV)
           rw[hkL]at hsk
           rw[hsk]at hnx
           have hil2:i<(DV f i).2.2.length:=by rw[hs];exact hil
           refine⟨⟨i+1,fun j hj=>(Nat.lt_succ_iff_lt_or_eq.1 hj).elim (hi j) (fun e=>by rw[e];exact hil2)⟩,by simp only;omega,AC [(12,.nm 12),(15,.nm 15),(16,.nm 16),(50,.nm 50),(101,.nm 101),(102,.nm 102),(3,.nm 3),(9,.nm 9)] rfl rfl ?_ ?_⟩
           ·simp only[hnx,Db]
            first|exact eN|refine eM ?_
           ·simp only[hnx]
            first|exact eN|refine eM ?_
   ·refine Ev.ent (σ':=⟨[],Db f L tm i⟩) ?_ (AC [(50,.nm 50),(101,.nm 101),(102,.nm 102),(3,.nm 3),(9,.nm 9)] rfl rfl ?_ ?_)
    ·exact Bp hc [] rfl (.inr rfl) (.raw (.tuple #[])) rfl ⟨rfl,i,rfl,TT hf h0 hi (by rw[hs];exact eV)⟩
    ·simp only[Db]
     first|exact eN|refine eM ?_
    ·first|exact eN|refine eM ?_
theorem o6 (f:List AF) (hf:AY f) (h0:0<f.length):Ca Tryz.prog 41 [.p FW f] [] [] (fun res objs'=>res=.sr 9 Bx 0 f.length∧objs'=[(9,.arr 30 Bx (Aj f))]):=by
 refine xW Tryz.func41 (by kernel_rfl) rfl Tryz.ntmps41 (by simp only[List.length_cons,List.length_nil];omega) (by kernel_rfl) rfl rfl (AH []) AI ?_
 intro w0 K O0 ρ0 hc hok1 hok2
 simp only[BU]
 have hfl:=hf.1
 repeat'(first|exact trivial|refine eS rfl ?_|refine AB ?_|refine rX [0,1,2,3,4,5,11,12,13] hc ?_ ?_|refine rC ?_ ?_<;>intro AA<;>try(cases AA;done))
 ·simp only[AO];omega
 ·refine cP 1 hc ?_ ?_
  ·trivial
  ·refine rM hc (o5 f) [] [] ?_ ?_ ?_
   ·first|exact eN|refine eM ?_
   ·first|exact eN|refine eM ?_
   ·rintro _ _ ⟨rfl,rfl⟩
    refine⟨[(50,.nm 1)],.clo 101 [50],[(50,.box 24 true [.p Jm f])],rfl,rfl,?_,?_,rfl,rfl,EJ ?_⟩
    ·first|exact eN|refine eM ?_
    ·first|exact eN|refine eM ?_
    ·repeat'(first|exact trivial|refine eS rfl ?_|refine AB ?_|refine rX [0,1,2,3,4,5,11,12,13] hc ?_ ?_|refine rC ?_ ?_<;>intro AA<;>try(cases AA;done))
     refine sN hc rfl rfl (by simp only[go_sem,Nat.reduceEqDiff,reduceCtorEq,Nat.reduceAdd,Nat.reduceSub,Nat.reduceMul,Nat.reduceLeDiff,Nat.reduceLT,Int.reduceLE,Int.reduceToNat,Int.reduceNeg,↓reduceIte];rfl) 101 103 102 rfl rfl rfl rfl ?_
     intro L tm hL1 hL2 hL3 hL4 hL5 hL6 htm
     refine⟨_,Db f L tm 0,[50,101,102,3],_,[(50,.nm 50),(101,.nm 101),(102,.nm 102),(3,.nm 3),(9,.nm 9)],[9],dH f hf h0 L tm ?_,rfl,rfl,?_,?_,rfl,?_⟩
     ·intro i hi
      have hb:=IQ hf h0 i
      have hnr:=hb.ok.rng (EB f i) (AD _ 0 hi)
      have hcl:=Ks f i
      have hcs:M2 f (i+1)=(M2 f i).set (EB f i).toNat (lN f i):=rfl
      refine sM (fr:=102) rfl rfl hL1 hL4 hL5 hL6 hL3 htm rfl (by kernel_rfl) (by simp) rfl rfl (by kernel_rfl) (by kernel_rfl) (AH []) AI ?_
      intro w1 K1 O1 ρ1 lb hc hok3 hok4 hb
      simp only[Db,HA]
      repeat'(first|exact trivial|refine eS rfl ?_|refine AB ?_|refine rX [0,1,2,3,4,5,11,12,13] hc ?_ ?_|refine rC ?_ ?_<;>intro AA<;>try(cases AA;done))
      refine⟨rfl,?_⟩
      repeat'(first|exact trivial|refine eS rfl ?_|refine AB ?_|refine rX [0,1,2,3,4,5,11,12,13] hc ?_ ?_|refine rC ?_ ?_<;>intro AA<;>try(cases AA;done))
      ·exact hnr
      ·refine Ev.ent (σ':=⟨[],[(50,.box 24 true [.p Jm f]),(101,.loop { L with state:=.busy }),(102,.frame tm [(3,.bp 3 [] 0)]),(3,.box 25 false [.sr 9 Bx 0 f.length]),(9,.arr 30 Bx (M2 f (i+1)))]⟩) ?_ (AC [(50,.nm 50),(101,.nm 101),(102,.nm 102),(3,.nm 3),(9,.nm 9)] rfl rfl ?_ ?_)
       ·refine nI hc (yn:=101) rfl rfl (by simp) hb ⟨rfl,?_⟩
        simp only[Db,go_sem,Nat.reduceEqDiff,reduceCtorEq,Nat.reduceAdd,Nat.reduceSub,Nat.reduceMul,Nat.reduceLeDiff,Nat.reduceLT,Int.reduceLE,Int.reduceToNat,Int.reduceNeg,↓reduceIte,uH hL1 hL2]
       ·rw[hcs]
        first|exact eN|refine eM ?_
       ·first|exact eN|refine eM ?_
     ·simp only[Bg]
      first|exact eN|refine eM ?_
     ·simp only[Bg,Db]
      first|exact eN|refine eM ?_
      rfl
     ·rintro _ _ ⟨rfl,N,rfl,hN⟩
      refine⟨[(50,.nm 50),(101,.nm 101),(102,.nm 102),(3,.nm 3),(9,.nm 9)],Db f L tm N,L,rfl,rfl,?_,rfl,rfl,rfl,by rw[hL1];rfl,?_⟩
      ·simp only[Db]
       first|exact eN|refine eM ?_
      ·intro b
       rw[hL2]
       simp only[EvJ,Db,Bg,go_sem,Nat.reduceEqDiff,reduceCtorEq,Nat.reduceAdd,Nat.reduceSub,Nat.reduceMul,Nat.reduceLeDiff,Nat.reduceLT,Int.reduceLE,Int.reduceToNat,Int.reduceNeg,↓reduceIte]
       replace hc:=nJ (dn:=103) (b:=b) hc
       rw[hN]
       repeat'(first|exact trivial|refine eS rfl ?_|refine AB ?_|refine rX [0,1,2,3,4,5,11,12,13] hc ?_ ?_|refine rC ?_ ?_<;>intro AA<;>try(cases AA;done))
       refine Ev.ent (σ':=⟨[(2,.sr 9 Bx 0 f.length)],[(9,.arr 30 Bx (Aj f)),(103,.dfr)]⟩) ?_ (AC [(9,.nm 9),(103,.nm 103)] rfl rfl ?_ ?_)
       ·exact sP hc [.tmp 2] rfl (.inl rfl) rfl rfl (.sr 9 Bx 0 f.length) eT ⟨rfl,by simp only[go_sem,Nat.reduceEqDiff,reduceCtorEq,Nat.reduceAdd,Nat.reduceSub,Nat.reduceMul,Nat.reduceLeDiff,Nat.reduceLT,Int.reduceLE,Int.reduceToNat,Int.reduceNeg,↓reduceIte]⟩
       ·first|exact eN|refine eM ?_
       ·first|exact eN|refine eM ?_
end
/- Functions of restrict: Depth. -/
section
theorem Fq {f:List AF} (hf:AY f) (h0:0<f.length):(Aj f).length=f.length:=by
 obtain⟨n,hj,hn⟩:∃n,(∀j,j<n→j<(DV f j).2.2.length)∧(DV f n).2.2.length≤n:=by
  have key:∀m n,m+n=f.length+1→(∀j,j<n→j<(DV f j).2.2.length)→∃n,(∀j,j<n→j<(DV f j).2.2.length)∧(DV f n).2.2.length≤n:=by
   intro m
   induction m with
   | zero =>
    intro n hn hj
    have h1:=hj f.length (by omega)
    have h2:=(IQ hf h0 f.length).ok.cnt
    omega
   | succ m ih =>
    intro n hn hj
    by_cases h:(DV f n).2.2.length≤n
    ·exact⟨n,hj,h⟩
    ·exact ih (n+1) (by omega) fun j hj'=>(Nat.lt_succ_iff_lt_or_eq.1 hj').elim (hj j) (fun e=>by rw[e];omega)
  exact key (f.length+1) 0 (by omega) (fun j hj=>by omega)
 rw[←TT hf h0 hj hn,Ks]
end
/- Functions of restrict: Keep. -/
section
def aP (l:List (Int×Int)) (x:Int):Int:=l.foldl (fun t a=>if a.1=x then a.2 else t) (-1)
end
/- Functions of grammarlablaw15: exampleHolds. -/
section
attribute [local go_sem] Mx
end
/- The plain laws under RestrictWhole: the first paths lead to their nodes and are shorter than the nodes are many; all nodes of a canonical feature structure are come to. -/
section
abbrev AU (f:List AF) (n:Int):List (Int×Int):=(f.getD n.toNat (0,[])).2
def Cb (f:List AF):Int→List Int→Option Int
 | n,[]=>some n
 | n,x :: r=>if aP (AU f n) x<0 then none else Cb f (aP (AU f n) x) r
theorem JZ (f:List AF):∀(p:List Int) (n m x:Int),Cb f n p=some m→Cb f n (p++[x])=if aP (AU f m) x<0 then none else some (aP (AU f m) x)
 | [],n,m,x,h=>by
  simp only[Cb,Option.some.injEq]at h
  subst h
  rfl
 | y :: p,n,m,x,h=>by
  simp only[Cb,List.cons_append]at h ⊢
  split at h
  ·cases h
  ·rename_i hc
   rw[if_neg hc]
   exact JZ f p _ m x h
theorem Xh {l:List (Int×Int)} (h:l.Pairwise (fun a b=>a.1<b.1)) {a:Int×Int} (ha:a∈l):aP l a.1=a.2:=by
 have keep:∀(l:List (Int×Int)) (t:Int),(∀b∈l,¬b.1=a.1)→l.foldl (fun t b=>if b.1=a.1 then b.2 else t) t=t:=by
  intro l
  induction l with
  | nil=>intro t _;rfl
  | cons b l ih =>
   intro t hl
   rw[List.foldl_cons,if_neg (hl b (by simp))]
   exact ih t (fun c hc=>hl c (by simp[hc]))
 obtain⟨l1,l2,rfl⟩:=List.append_of_mem ha
 rw[List.pairwise_append,List.pairwise_cons]at h
 obtain⟨-,⟨h2,-⟩,-⟩:=h
 unfold aP
 rw[List.foldl_append,List.foldl_cons,if_pos rfl]
 exact keep l2 _ (fun b hb e=>by have:=h2 b hb;omega)
structure WI (f:List AF) (s:Qp):Prop where
 walk:∀x∈s.2.2,Cb f 0 (s.1.getD x.toNat [])=some x
 len:∀p∈s.1,p.length<s.2.2.length
theorem A0p {f:List AF} (hs:Ew f) {s:Qp} (h:BI f s) (hw:WI f s) {n:Int} (hn:n∈s.2.2) {a:Int×Int} (ha:a∈AU f n) (h0:0≤a.2) (h1:a.2<f.length):WI f (CF n s a):=by
 obtain⟨-,-,g3⟩:=Xf (n:=n) h h0 h1
 have hl1:=h.ok.l1
 unfold CF at g3 ⊢
 split at g3
 ·rename_i hc
  rw[if_pos hc]
  exact hw
 ·rename_i hc
  rw[if_neg hc]
  have hto:=Xh ((Iu _).1 (Xc hs n).1) ha
  refine⟨fun x hx=>?_,fun p hp=>?_⟩
  ·simp only at g3 hx ⊢
   by_cases hxo:x∈s.2.2
   ·rw[g3 x hxo]
    exact hw.walk x hxo
   ·have hxa:x=a.2:=by
     rcases List.mem_append.1 hx with hx|hx
     ·exact absurd hx hxo
     ·simpa using hx
    subst hxa
    rw[CN _ _ _ (by omega),JZ f _ 0 n a.1 (hw.walk n hn),hto,if_neg (by omega)]
  ·simp only at hp ⊢
   rw[List.length_append,List.length_singleton]
   rcases List.mem_or_eq_of_mem_set hp with hp|rfl
   ·have:=hw.len p hp
    omega
   ·rw[List.length_append,List.length_singleton]
    have h2:=h.ok.rng n hn
    have h3:s.1.getD n.toNat []∈s.1:=AD s.1 [] (by omega)
    have:=hw.len _ h3
    omega
theorem lO {f:List AF} (hf:AY f) (hs:Ew f) {n:Int}:∀ {l:List (Int×Int)} {s:Qp},(∀a∈l,a∈AU f n)→BI f s→WI f s→n∈s.2.2 →
  WI f (l.foldl (CF n) s)∧∀a∈l,a.2∈(l.foldl (CF n) s).2.2
 | [],_,_,_,h,_=>⟨h,fun a ha=>by cases ha⟩
 | a :: l,s,hl,hb,h,hn=>by
  have q:=JY hf (hl a (by simp))
  obtain⟨g1,g2,_⟩:=Xf (n:=n) hb q.1 q.2
  obtain⟨i1,i2⟩:=lO hf hs (n:=n) (l:=l) (fun b hb=>hl b (by simp[hb])) g1 (A0p hs hb h hn (hl a (by simp)) q.1 q.2) (g2.subset hn)
  obtain⟨_,j2,_⟩:=Le (n:=n) (l:=l) (fun b hb=>JY hf (hl b (by simp[hb]))) g1
  refine⟨i1,fun b hb'=>?_⟩
  rcases List.mem_cons.1 hb' with rfl|hb'
  ·refine j2.subset ?_
   unfold CF
   split
   ·rename_i hc
    have:=(hb.mem b.2.toNat (by omega)).1 hc
    rwa [show ((b.2.toNat:Nat):Int)=b.2 by omega]at this
   ·simp
  ·exact i2 b hb'
theorem uP {f:List AF} (hf:AY f) (hs:Ew f) (h0:0<f.length):∀i,(∀j,j<i→j<(DV f j).2.2.length)→WI f (DV f i)∧(0:Int)∈(DV f i).2.2 ∧
  ∀j,j<i→∀a∈AU f ((DV f i).2.2.getD j 0),a.2∈(DV f i).2.2
 | 0,_=>by
  refine⟨⟨fun x hx=>?_,fun p hp=>?_⟩,by simp[DV,GG],fun j hj=>by omega⟩
  ·have:x=0:=by simpa[DV,GG] using hx
   subst this
   simp only[DV,GG,List.getD_eq_getElem?_getD,List.getElem?_replicate]
   split<;>rfl
  ·have:p=[]:=List.eq_of_mem_replicate (by simpa[DV,GG] using hp:p∈List.replicate f.length [])
   subst this
   simp[DV,GG]
 | i+1,hj=>by
  obtain⟨g1,g2,g3⟩:=uP hf hs h0 i (fun j hji=>hj j (by omega))
  have hb:=IQ hf h0 i
  have hi:=hj i (by omega)
  have hn:(DV f i).2.2.getD i 0∈(DV f i).2.2:=AD _ 0 hi
  obtain⟨k1,k2⟩:=lO hf hs (n:=(DV f i).2.2.getD i 0) (l:=AU f ((DV f i).2.2.getD i 0)) (fun a ha=>ha) hb g1 hn
  obtain⟨_,j2,_⟩:=Le (n:=(DV f i).2.2.getD i 0) (l:=AU f ((DV f i).2.2.getD i 0)) (fun a ha=>JY hf ha) hb
  have e:DV f (i+1)=(AU f ((DV f i).2.2.getD i 0)).foldl (CF ((DV f i).2.2.getD i 0)) (DV f i):=rfl
  rw[e]
  refine⟨k1,j2.subset g2,fun j hji a ha=>?_⟩
  have hjl:j<(DV f i).2.2.length:=by omega
  have hget:((AU f ((DV f i).2.2.getD i 0)).foldl (CF ((DV f i).2.2.getD i 0)) (DV f i)).2.2.getD j 0=(DV f i).2.2.getD j 0:=by
   obtain⟨t,ht⟩:=j2
   rw[←ht]
   simp only[List.getD_eq_getElem?_getD]
   rw[List.getElem?_append_left hjl]
  rw[hget]at ha
  by_cases hji':j=i
  ·subst hji'
   exact k2 a ha
  ·exact j2.subset (g3 j (by omega) a ha)
theorem Vj {f:List AF} (hf:AY f) (hs:Ew f) (h0:0<f.length):∃C:List Int,(0:Int)∈C∧(∀x∈C,∀a∈AU f x,a.2∈C)∧(∀x∈C,Cb f 0 ((Aj f).getD x.toNat [])=some x)∧∀p∈Aj f,p.length<f.length:=by
 obtain⟨n,hj,hn⟩:∃n,(∀j,j<n→j<(DV f j).2.2.length)∧(DV f n).2.2.length≤n:=by
  have key:∀m n,m+n=f.length+1→(∀j,j<n→j<(DV f j).2.2.length)→∃n,(∀j,j<n→j<(DV f j).2.2.length)∧(DV f n).2.2.length≤n:=by
   intro m
   induction m with
   | zero =>
    intro n hn hj
    have h1:=hj f.length (by omega)
    have h2:=(IQ hf h0 f.length).ok.cnt
    omega
   | succ m ih =>
    intro n hn hj
    by_cases h:(DV f n).2.2.length≤n
    ·exact⟨n,hj,h⟩
    ·exact ih (n+1) (by omega) fun j hj'=>(Nat.lt_succ_iff_lt_or_eq.1 hj').elim (hj j) (fun e=>by rw[e];omega)
  exact key (f.length+1) 0 (by omega) (fun j hj=>by omega)
 have e:Aj f=(DV f n).1:=by
  unfold Aj
  rw[←Xg hf h0 n hj,Xd hn]
 obtain⟨g1,g2,g3⟩:=uP hf hs h0 n hj
 have hc:=(IQ hf h0 n).ok.cnt
 refine⟨(DV f n).2.2,g2,fun x hx a ha=>?_,fun x hx=>by rw[e];exact g1.walk x hx,fun p hp=>?_⟩
 ·obtain⟨j,hj',rfl⟩:=List.mem_iff_getElem.1 hx
  have:(DV f n).2.2[j]=(DV f n).2.2.getD j 0:=by simp[List.getD_eq_getElem?_getD,hj']
  rw[this]at ha
  exact g3 j (by omega) a ha
 ·rw[e]at hp
  have:=g1.len p hp
  omega
theorem MF {f:List AF} (h:BB f=true):AX f 0=f:=by
 obtain⟨hg,hs,h0,_⟩:=HV h
 unfold BB at h
 simp only[Bool.and_eq_true,beq_iff_eq]at h
 obtain⟨_,hc,he⟩:=h
 have hcf:(B4 f).1=MB f 0:=by
  unfold B4 at hc ⊢
  split at hc
  ·rename_i hh;rw[if_pos hh]
  ·rename_i hh;exact absurd hc hh
 rw[hcf]at he
 rw[←TJ hg hs (by omega) (by omega)]
 exact Kr he
/-! The parts -/
theorem dI {acc:Int→Int×Int→Bool} {f:List AF} (h:∀i,i<f.length→∀a∈(f.getD i (0,[])).2,acc (i:Int) a=true):FZ acc f f.length=f:=by
 apply List.ext_getElem
 ·exact It _ _ _
 ·intro i h1 h2
  have e:f.getD i (0,[])=f[i]:=by simp[List.getD_eq_getElem?_getD,h2]
  have:=h i h2
  simp only[FZ,List.getElem_map,List.getElem_range,uK]
  rw[List.filter_eq_self.2 this,e]
theorem dJ {acc:Int→Int×Int→Bool} {f:List AF} (hc:BB f=true) (h:∀i,i<f.length→∀a∈(f.getD i (0,[])).2,acc (i:Int) a=true):TK acc f=f:=by
 unfold TK
 rw[dI h]
 exact MF hc
/-! Keep all paths -/
end
/- Plain: structures that differ in their nodes' names alone have one canonical form; a part of a part is a part. -/
section
theorem Zi {f:List AF} (hf:AY f):∀(k:Nat) (o:List Int) (n:Int),MD f o→0≤n→n<f.length→n∉o→f.length-o.length≤k→QQX f (k+1) o n=QQX f k o n
 | 0,o,n,h,h0,h1,h2,hk=>by
  have:=(h.snoc h0 h1 h2).len
  simp only[List.length_append,List.length_singleton]at this
  omega
 | k+1,o,n,h,h0,h1,h2,hk=>by
  rw[Da,Da]
  have key:∀(l:List (Int×Int)) (t:List Int),(∀a∈l,0≤a.2∧a.2<(f.length:Int))→MD f t→f.length-t.length≤k→l.foldl (Al f (k+1)) t=l.foldl (Al f k) t:=by
   intro l
   induction l with
   | nil=>intros;rfl
   | cons a l ih =>
    intro t hl ht hlen
    have hq:=hl a (by simp)
    have hs:Al f (k+1) t a=Al f k t a:=by
     unfold Al
     split
     ·rfl
     ·rename_i hn
      exact Zi hf k t a.2 ht hq.1 hq.2 hn hlen
    have h3:MD f (Al f k t a)∧t <+: Al f k t a:=by
     unfold Al
     split
     ·exact⟨ht,List.prefix_refl _⟩
     ·rename_i hn
      exact EA hf k t a.2 ht hq.1 hq.2 hn
    rw[List.foldl_cons,List.foldl_cons,hs]
    have:=h3.2.length_le
    exact ih _ (fun b hb=>hl b (by simp[hb])) h3.1 (by omega)
  exact key _ _ (fun a ha=>A9 hf ha) (h.snoc h0 h1 h2) (by simp only[List.length_append,List.length_singleton];omega)
theorem Gd (f:List AF):MD f []:=⟨by simp,fun x hx=>by cases hx⟩
theorem TU {f:List AF} (hf:AY f) {n:Int} (h0:0≤n) (h1:n<f.length):∀m,QQX f (f.length+m) [] n=QQX f f.length [] n
 | 0=>rfl
 | m+1=>by
  rw[←Nat.add_assoc,Zi hf _ [] n (Gd f) h0 h1 (by simp) (by simp only[List.length_nil];omega)]
  exact TU hf h0 h1 m
structure Iso (Q R:List AF) (ψ:Int→Int) (C:Int→Prop):Prop where
 arc:∀i,C i→AU R (ψ i)=(AU Q i).map fun a=>(a.1,ψ a.2)
 cl:∀i,C i→∀a∈AU Q i,C a.2
 inj:∀i j,C i→C j→ψ i=ψ j→i=j
theorem Re {Q R:List AF} {ψ:Int→Int} {C:Int→Prop} (h:Iso Q R ψ C):∀(k:Nat) (t:List Int) (i:Int),(∀x∈t,C x)→C i→QQX R k (t.map ψ) (ψ i)=(QQX Q k t i).map ψ∧∀x∈QQX Q k t i,C x
 | 0,t,i,ht,hi=>⟨rfl,ht⟩
 | k+1,t,i,ht,hi=>by
  have key:∀(l:List (Int×Int)) (t:List Int),(∀a∈l,C a.2)→(∀x∈t,C x) →
    (l.map fun a=>(a.1,ψ a.2)).foldl (Al R k) (t.map ψ)=(l.foldl (Al Q k) t).map ψ∧∀x∈l.foldl (Al Q k) t,C x:=by
   intro l
   induction l with
   | nil=>intro t _ ht;exact⟨rfl,ht⟩
   | cons a l ih =>
    intro t hl ht
    have ha:=hl a (by simp)
    have hs:Al R k (t.map ψ) (a.1,ψ a.2)=(Al Q k t a).map ψ∧∀x∈Al Q k t a,C x:=by
     unfold Al
     by_cases hm:a.2∈t
     ·rw[if_pos hm,if_pos (List.mem_map.2 ⟨_,hm,rfl⟩)]
      exact⟨rfl,ht⟩
     ·have hm2:¬ψ a.2∈t.map ψ:=by
       intro hh
       obtain⟨x,hx,e⟩:=List.mem_map.1 hh
       exact hm (h.inj x a.2 (ht x hx) ha e▸hx)
      rw[if_neg hm]
      simp only[if_neg hm2]
      exact Re h k t a.2 ht ha
    rw[List.map_cons,List.foldl_cons,List.foldl_cons,hs.1]
    exact ih _ (fun b hb=>hl b (by simp[hb])) hs.2
  rw[Da,Da]
  have e:t.map ψ++[ψ i]=(t++[i]).map ψ:=by simp
  have ea:(R.getD (ψ i).toNat (0,[])).2=(AU Q i).map fun a=>(a.1,ψ a.2):=h.arc i hi
  rw[ea,e]
  refine key _ _ (h.cl i hi) fun x hx=>?_
  rcases List.mem_append.1 hx with hx|hx
  ·exact ht x hx
  ·have:x=i:=by simpa using hx
   rw[this];exact hi
theorem uQ {o:List Int} {ψ:Int→Int} {x:Int} (h:∀y∈o,ψ y=ψ x→y=x):B5 (o.map ψ) (ψ x)=B5 o x:=by
 have hi:(o.map ψ).idxOf (ψ x)=o.idxOf x:=by
  induction o with
  | nil=>rfl
  | cons y o ih =>
   rw[List.map_cons,List.idxOf_cons,List.idxOf_cons]
   have hy:=h y (by simp)
   by_cases e:y=x
   ·subst e;simp
   ·have e2:¬ψ y=ψ x:=fun hh=>e (hy hh)
    have b1:(y==x)=false:=by simpa using e
    have b2:(ψ y==ψ x)=false:=by simpa using e2
    rw[b1,b2,ih (fun z hz=>h z (by simp[hz]))]
 unfold B5
 by_cases hm:x∈o
 ·rw[if_pos hm,if_pos (List.mem_map.2 ⟨x,hm,rfl⟩),hi]
 ·rw[if_neg hm,if_neg]
  intro hh
  obtain⟨y,hy,e⟩:=List.mem_map.1 hh
  exact hm (h y hy e▸hy)
theorem UV {Q R:List AF} {ψ:Int→Int} {C:Int→Prop} (h:Iso Q R ψ C) (hQ:AY Q) (hC0:C 0) (h0:ψ 0=0) (hQ0:0<Q.length) (hlen:Q.length≤R.length)
  (hty:∀i,C i→(R.getD (ψ i).toNat (0,[])).1=(Q.getD i.toNat (0,[])).1):AX R 0=AX Q 0:=by
 have hd:QQX R R.length [] 0=(QQX Q Q.length [] 0).map ψ∧∀x∈QQX Q Q.length [] 0,C x:=by
  have h1:=Re h R.length [] 0 (fun x hx=>by cases hx) hC0
  rw[h0]at h1
  have h2:=TU hQ (n:=0) (by omega) (by omega) (R.length-Q.length)
  rw[show Q.length+(R.length-Q.length)=R.length by omega]at h2
  rw[h2]at h1
  exact h1
 unfold AX
 rw[hd.1]
 generalize QQX Q Q.length [] 0=o at *
 rw[List.map_map]
 refine List.map_congr_left fun i hi=>?_
 have hci:=hd.2 i hi
 show GF R (o.map ψ) (ψ i)=GF Q o i
 unfold GF
 have ea:(R.getD (ψ i).toNat (0,[])).2=(AU Q i).map fun a=>(a.1,ψ a.2):=h.arc i hci
 rw[hty i hci,ea,List.map_map]
 refine congrArg _ (List.map_congr_left fun a ha=>?_)
 show (a.1,B5 (o.map ψ) (ψ a.2))=(a.1,B5 o a.2)
 rw[uQ fun y hy e=>h.inj y a.2 (hd.2 y hy) (h.cl i hci a ha) e]
/-! Nodes come to -/
structure Ord (f:List AF) (o:List Int):Prop where
 ok:MD f o
 zero:o.getD 0 0=0∧0<o.length
 cl:∀n∈o,∀a∈AU f n,a.2∈o
theorem uR {f:List AF} (hf:AY f) (h0:0<f.length):[0] <+: QQX f f.length [] 0:=by
 obtain⟨k,hk⟩:∃k,f.length=k+1:=⟨f.length-1,by omega⟩
 rw[hk,Da]
 exact(Eh (EA hf k) _ _ (fun a ha=>A9 hf ha) ((Gd f).snoc (by omega) (by omega) (by simp))).2
theorem uS {f:List AF} (hf:AY f) (h0:0<f.length):Ord f (QQX f f.length [] 0):=by
 have h1:=EA hf f.length [] 0 (Gd f) (by omega) (by omega) (by simp)
 have h2:=HT hf f.length [] 0 (Gd f) (by omega) (by omega) (by simp) (by simp)
 have h3:=uR hf h0
 refine⟨h1.1,?_,fun n hn a ha=>?_⟩
 ·obtain⟨t,ht⟩:=h3
  rw[←ht]
  exact⟨rfl,by simp⟩
 ·rcases h2.2 n hn with h|h
  ·cases h
  ·exact h a ha
where
 getD_mem' {l:List Int} {d:Int} {k:Nat} (h:k<l.length):l.getD k d∈l:=by
  rw[List.getD_eq_getElem?_getD,List.getElem?_eq_getElem h]
  exact List.getElem_mem h
theorem Iw {o:List Int} (hn:o.Nodup) {i:Nat} (hi:i<o.length):B5 o (o.getD i 0)=(i:Int):=by
 have e:o.getD i 0=o[i]:=by rw[List.getD_eq_getElem?_getD,List.getElem?_eq_getElem hi];rfl
 rw[e]
 unfold B5
 rw[if_pos (List.getElem_mem hi),hn.idxOf_getElem i hi]
theorem GH {o:List Int} {x:Int} (h:x∈o):0≤B5 o x∧B5 o x<(o.length:Int)∧o.getD (B5 o x).toNat 0=x:=by
 unfold B5
 rw[if_pos h]
 have hl:=List.idxOf_lt_length_of_mem h
 refine⟨by omega,by omega,?_⟩
 rw[Int.toNat_natCast,List.getD_eq_getElem?_getD,List.getElem?_eq_getElem hl]
 show o[o.idxOf x]=x
 exact List.getElem_idxOf hl
theorem o7 (f:List AF):(AX f 0).length=(QQX f f.length [] 0).length:=by simp[AX]
theorem o8 {f:List AF} {i:Nat} (hi:i<(QQX f f.length [] 0).length):(AX f 0).getD i (0,[])=GF f (QQX f f.length [] 0) ((QQX f f.length [] 0).getD i 0):=by
 unfold AX
 simp[List.getD_eq_getElem?_getD,hi]
theorem Zj (acc:Int→Int×Int→Bool) {f:List AF} {n:Int} (h0:0≤n) (h1:n<f.length):(FZ acc f f.length).getD n.toNat (0,[])=((f.getD n.toNat (0,[])).1,(AU f n).filter (acc n)):=by
 have hn:n.toNat<f.length:=by omega
 have e:((n.toNat:Nat):Int)=n:=by omega
 unfold FZ
 simp only[List.getD_eq_getElem?_getD,List.getElem?_map,List.getElem?_range hn,Option.map_some,Option.getD_some,uK]
 rw[e]
 rfl
end
/- Plain: what Keep keeps; Keep twice is Keep. -/
section
theorem A0q (l:List (Int×Int)) (x:Int):aP l x=-1∨∃a∈l,a.1=x∧a.2=aP l x:=by
 have key:∀(l:List (Int×Int)) (t:Int),l.foldl (fun t a=>if a.1=x then a.2 else t) t=t∨∃a∈l,a.1=x∧a.2=l.foldl (fun t a=>if a.1=x then a.2 else t) t:=by
  intro l
  induction l with
  | nil=>intro t;exact .inl rfl
  | cons b l ih =>
   intro t
   rw[List.foldl_cons]
   by_cases h:b.1=x
   ·rw[if_pos h]
    rcases ih b.2 with e|⟨a,ha,e⟩
    ·exact .inr ⟨b,by simp,h,e.symm⟩
    ·exact .inr ⟨a,by simp[ha],e⟩
   ·rw[if_neg h]
    rcases ih t with e|⟨a,ha,e⟩
    ·exact .inl e
    ·exact .inr ⟨a,by simp[ha],e⟩
 exact key l (-1)
theorem uT {l:List (Int×Int)} {x:Int} (h:0≤aP l x):∃a∈l,a.1=x∧a.2=aP l x:=by
 rcases A0q l x with e|h1
 ·omega
 ·exact h1
theorem uU {f:List AF} (hs:Ew f) (n:Int):(AU f n).Pairwise (fun a b=>a.1<b.1):=(Iu _).1 (Xc hs n).1
theorem A1J {f:List AF} (hs:Ew f) {n:Int} {a:Int×Int} (ha:a∈AU f n):aP (AU f n) a.1=a.2:=Xh (uU hs n) ha
theorem o9 {f:List AF} (hf:AY f) (hs:Ew f) (h0:0<f.length) (acc:Int→Int×Int→Bool) {n:Int} (hn:n∈QQX (FZ acc f f.length) f.length [] 0) :
  AU (TK acc f) (B5 (QQX (FZ acc f f.length) f.length [] 0) n)=((AU f n).filter (acc n)).map (Xb (QQX (FZ acc f f.length) f.length [] 0)):=by
 obtain⟨hPg,hPs⟩:=Vg hf hs acc
 have hPl:=It acc f f.length
 have ho:=uS hPg (by omega)
 have hg:=fun i=>o8 (f:=FZ acc f f.length) (i:=i)
 rw[hPl]at ho hg
 obtain⟨g0,g1,g2⟩:=GH hn
 have hr:=ho.ok.rng n hn
 rw[hPl]at hr
 show ((TK acc f).getD _ (0,[])).2=_
 have:TK acc f=AX (FZ acc f f.length) 0:=rfl
 rw[this,hg _ (by omega),g2]
 unfold GF
 rw[Zj acc hr.1 hr.2]
end
/- Plain: the first paths are shortest; Depth twice is the lesser Depth. -/
section
theorem Pi {f:List AF}:∀(p:List Int) (n:Int) (z:List Int),Cb f n p=none→Cb f n (p++z)=none
 | [],_,_,h=>by cases h
 | x :: p,n,z,h=>by
  simp only[Cb,List.cons_append]at h ⊢
  split
  ·rfl
  ·rename_i hc
   rw[if_neg hc]at h
   exact Pi p _ z h
theorem Vk {f:List AF} {p:List Int} {e y:Int} (h:Cb f 0 (p++[e])=some y):∃x,Cb f 0 p=some x∧∃a∈AU f x,a.1=e∧a.2=y:=by
 cases hh:Cb f 0 p with
 | none=>rw[Pi p 0 [e] hh]at h;cases h
 | some x =>
  have hw:=JZ f p 0 x e hh
  rw[h]at hw
  split at hw
  ·cases hw
  ·rename_i hc
   obtain⟨a,ha,e1,e2⟩:=uT (l:=AU f x) (x:=e) (by omega)
   exact⟨x,rfl,a,ha,e1,by rw[e2];exact(Option.some.inj hw).symm⟩
theorem uV {f:List AF} (hf:AY f) (hs:Ew f) {p:List Int} {x:Int} (h:Cb f 0 p=some x) {a:Int×Int} (ha:a∈AU f x):Cb f 0 (p++[a.1])=some a.2:=by
 rw[JZ f p 0 x a.1 h,A1J hs ha,if_neg (by have:=(A9 hf ha).1;omega)]
end
/- Functions of subsume: target, Map, Subsumes. -/
section
def GI (l:List (Int×Int)) (e:Int):Int:=match l with
 | []=>-1
 | a :: l=>if a.1=e then a.2 else GI l e
end
/- Functions of subsume: Map, Subsumes. -/
section
def Xi (bl:List (Int×Int)) (m:List Int) (x:Int×Int):Bool:=decide (GI bl x.1<0)||decide (0≤m.getD x.2.toNat 0)&&!(m.getD x.2.toNat 0==GI bl x.1)
def Hy (bl:List (Int×Int)):List (Int×Int)→List Int→Option (List Int)
 | [],m=>some m
 | x :: l,m=>if Xi bl m x=true then none else Hy bl l (m.set x.2.toNat (GI bl x.1))
def OX (h:AN) (b:List AF) (n:AF) (k:Int):Bool:=decide (k<0)||!Cr h n.1 (b.getD k.toNat (0,[])).1
def HW (h:AN) (b:List AF):List AF→Nat→List Int→Option (List Int)
 | [],_,m=>some m
 | n :: r,i,m=>if OX h b n (m.getD i 0)=true then none else match Hy (b.getD (m.getD i 0).toNat (0,[])).2 n.2 m with
  | none=>none
  | some m'=>HW h b r (i+1) m'
def A1K (h:AN) (a b:List AF):Option (List Int):=HW h b a 0 ((List.replicate a.length (-1)).set 0 0)
theorem MG (h:AN) (b a:List AF) (m:List Int) {i:Nat} (hi:i<a.length):HW h b (a.drop i) i m=if OX h b (a.getD i (0,[])) (m.getD i 0)=true then none else match Hy (b.getD (m.getD i 0).toNat (0,[])).2 (a.getD i (0,[])).2 m with
  | none=>none
  | some m'=>HW h b (a.drop (i+1)) (i+1) m':=by
 rw[List.drop_eq_getElem_cons hi]
 have e:a.getD i (0,[])=a[i]:=by simp[List.getD_eq_getElem?_getD,hi]
 rw[e]
 rfl
structure uW (a b:List AF) (m:List Int):Prop where
 len:m.length=a.length
 rng:∀x∈m,x<(b.length:Int)
theorem lQ {n:Int} (hn:0≤n):∀ {l:List (Int×Int)} (e:Int),(∀x∈l,x.2<n)→GI l e<n
 | [],_,_=>by simp only[GI];omega
 | x :: l,e,h=>by
  simp only[GI]
  split
  ·exact h x (by simp)
  ·exact lQ hn e (fun y hy=>h y (by simp[hy]))
theorem uW.set {a b:List AF} {m:List Int} (h:uW a b m) (k:Nat) {v:Int} (hv:v<(b.length:Int)):uW a b (m.set k v):=by
 refine⟨by simp[h.len],fun x hx=>?_⟩
 rcases List.mem_or_eq_of_mem_set hx with hx|hx
 ·exact h.rng x hx
 ·rw[hx];exact hv
theorem uW.get {a b:List AF} {m:List Int} (h:uW a b m) (hb:0<b.length) (k:Nat):m.getD k 0<(b.length:Int):=by
 rw[List.getD_eq_getElem?_getD]
 cases hh:m[k]? with
 | none=>show (0:Int)<_;omega
 | some x=>exact h.rng x (List.mem_of_getElem? hh)
def Ge (h:AN) (f:List AF):Prop:=∀x∈f,0≤x.1∧x.1<(h.1.length:Int)
theorem OY {f:List AF} (hf:AY f) (k:Nat):∀x∈(f.getD k (0,[])).2,0≤x.2∧x.2<(f.length:Int):=by
 intro x hx
 by_cases h:k<f.length
 ·exact(hf.2 _ (AD f (0,[]) h)).2 x hx
 ·rw[List.getD_eq_getElem?_getD,List.getElem?_eq_none (by omega)]at hx
  cases hx
def OZ (h:AN) (a b:List AF):Bool:=(A1K h a b).isSome
end
/- Plain: subsume.Map finds a map if there is one; parts subsume, and parts of what subsumes subsume parts. -/
section
structure Qr (h:AN) (a b:List AF) (m:Int→Int):Prop where
 zero:m 0=0
 rng:∀i,0≤i→i<(a.length:Int)→0≤m i∧m i<(b.length:Int)
 ty:∀i,0≤i→i<(a.length:Int)→Cr h (a.getD i.toNat (0,[])).1 (b.getD (m i).toNat (0,[])).1=true
 arc:∀i,0≤i→i<(a.length:Int)→∀x∈AU a i,GI (AU b (m i)) x.1=m x.2
theorem Zk {l:List (Int×Int)} (h:l.Pairwise (fun a b=>a.1<b.1)) {a:Int×Int} (ha:a∈l):GI l a.1=a.2:=by
 induction l with
 | nil=>cases ha
 | cons b l ih =>
  obtain⟨h1,h2⟩:=List.pairwise_cons.1 h
  simp only[GI]
  rcases List.mem_cons.1 ha with rfl|ha
  ·rw[if_pos rfl]
  ·rw[if_neg (by have:=h1 a ha;omega)]
   exact ih h2 ha
theorem TV {l:List (Int×Int)} {e:Int} (h:0≤GI l e):∃a∈l,a.1=e∧a.2=GI l e:=by
 induction l with
 | nil=>simp only[GI]at h;omega
 | cons b l ih =>
  simp only[GI]at h ⊢
  split
  ·rename_i hb
   exact⟨b,by simp,hb,rfl⟩
  ·rename_i hb
   rw[if_neg hb]at h
   obtain⟨a,ha,e1,e2⟩:=ih h
   exact⟨a,by simp[ha],e1,e2⟩
def RO (f:List AF):Prop:=∀i:Int,0<i→i<(f.length:Int)→∃j,0≤j∧j<i∧∃x∈AU f j,x.2=i
/-! The map is found -/
structure MH (a:List AF) (m:Int→Int) (M:List Int):Prop where
 len:M.length=a.length
 val:∀k:Nat,k<a.length→M.getD k 0=-1∨M.getD k 0=m (k:Int)
theorem FM {M:List Int} {k j:Nat} {v:Int} (hk:k<M.length):(M.set k v).getD j 0=if k=j then v else M.getD j 0:=by
 by_cases h:k=j
 ·subst h;rw[if_pos rfl,CN _ _ _ hk]
 ·rw[if_neg h,getD_set_ne _ _ _ h]
theorem Zl {a:List AF} (ha:AY a) {m:Int→Int} {n:Int} (hm:∀i,0≤i→i<(a.length:Int)→0≤m i) {bl:List (Int×Int)}:∀ {l:List (Int×Int)} {M:List Int},(∀x∈l,x∈AU a n)→(∀x∈l,GI bl x.1=m x.2)→MH a m M →
  ∃M',Hy bl l M=some M'∧MH a m M'∧(∀k:Nat,k<a.length→M.getD k 0=m (k:Int)→M'.getD k 0=m (k:Int))∧∀x∈l,M'.getD x.2.toNat 0=m x.2
 | [],M,_,_,h=>⟨M,rfl,h,fun _ _ h=>h,fun x hx=>by cases hx⟩
 | x :: l,M,hl,ht,h=>by
  have hr:=A9 ha (hl x (by simp))
  have hx:=ht x (by simp)
  have hmx:=hm x.2 hr.1 hr.2
  have hxl:x.2.toNat<a.length:=by omega
  have hxe:((x.2.toNat:Nat):Int)=x.2:=by omega
  have hv:=h.val x.2.toNat hxl
  rw[hxe]at hv
  have hbad:¬Xi bl M x=true:=by
   unfold Xi
   rw[Bool.or_eq_true,Bool.and_eq_true,decide_eq_true_eq,decide_eq_true_eq,Bool.not_eq_true',beq_eq_false_iff_ne,hx]
   rintro (g|⟨g1,g2⟩)
   ·omega
   ·rcases hv with hv|hv
    ·omega
    ·exact g2 hv
  have h2:MH a m (M.set x.2.toNat (GI bl x.1)):=by
   refine⟨by rw[List.length_set];exact h.len,fun k hk=>?_⟩
   rw[FM (by rw[h.len];exact hxl)]
   split
   ·rename_i e
    right
    rw[hx,←e,hxe]
   ·exact h.val k hk
  obtain⟨M',e1,e2,e3,e4⟩:=Zl ha hm (l:=l) (fun y hy=>hl y (by simp[hy])) (fun y hy=>ht y (by simp[hy])) h2
  refine⟨M',?_,e2,fun k hk hkm=>e3 k hk ?_,fun y hy=>?_⟩
  ·simp only[Hy]
   rw[if_neg hbad]
   exact e1
  ·rw[FM (by rw[h.len];exact hxl)]
   split
   ·rename_i e
    rw[hx,←e,hxe]
   ·exact hkm
  ·rcases List.mem_cons.1 hy with rfl|hy
   ·have h9:=e3 y.2.toNat hxl (by rw[FM (by rw[h.len];exact hxl),if_pos rfl,hx,hxe])
    rw[hxe]at h9
    exact h9
   ·exact e4 y hy
theorem Vl {h:AN} {a b:List AF} (ha:AY a) (hro:RO a) {m:Int→Int} (hm:Qr h a b m):∀(r i:Nat) (M:List Int),r+i=a.length→MH a m M→(0<a.length→M.getD 0 0=0) →
  (∀k:Nat,k<a.length→(∃j:Int,0≤j∧j<(i:Int)∧∃x∈AU a j,x.2=(k:Int))→M.getD k 0=m (k:Int))→∃M',HW h b (a.drop i) i M=some M'
 | 0,i,M,hri,_,_,_=>by
  rw[List.drop_eq_nil_of_le (by omega)]
  exact⟨M,rfl⟩
 | r+1,i,M,hri,hM,hM0,hMr=>by
  have hi:i<a.length:=by omega
  have hki:M.getD i 0=m (i:Int):=by
   cases i with
   | zero =>
    rw[hM0 hi]
    exact hm.zero.symm
   | succ i =>
    obtain⟨j,j0,j1,x,hx,e⟩:=hro ((i+1:Nat):Int) (by omega) (by omega)
    exact hMr (i+1) hi ⟨j,j0,j1,x,hx,e⟩
  have hr:=hm.rng (i:Int) (by omega) (by omega)
  have hty:=hm.ty (i:Int) (by omega) (by omega)
  have harc:=hm.arc (i:Int) (by omega) (by omega)
  rw[Int.toNat_natCast]at hty
  have hbad:¬OX h b (a.getD i (0,[])) (M.getD i 0)=true:=by
   unfold OX
   rw[Bool.or_eq_true,decide_eq_true_eq,Bool.not_eq_true',hki]
   rintro (g|g)
   ·omega
   ·rw[hty]at g;cases g
  rw[MG h b a M hi,if_neg hbad,hki]
  have hai:AU a (i:Int)=(a.getD i (0,[])).2:=by rw[AU,Int.toNat_natCast]
  obtain⟨M',e1,e2,e3,e4⟩:=Zl (n:=(i:Int)) ha (fun k g0 g1=>(hm.rng k g0 g1).1) (bl:=(b.getD (m (i:Int)).toNat (0,[])).2) (l:=(a.getD i (0,[])).2) (fun x hx=>by rw[hai];exact hx) (fun x hx=>harc x (by rw[hai];exact hx)) hM
  rw[e1]
  simp only
  refine Vl ha hro hm r (i+1) M' (by omega) e2 (fun g=>?_) (fun k hk hj=>?_)
  ·have:=e3 0 g (by rw[hM0 g];exact hm.zero.symm)
   rw[this]
   exact hm.zero
  ·obtain⟨j,j0,j1,x,hx,e⟩:=hj
   by_cases hji:j<(i:Int)
   ·exact e3 k hk (hMr k hk ⟨j,j0,hji,x,hx,e⟩)
   ·have:j=(i:Int):=by omega
    subst this
    rw[hai]at hx
    have:=e4 x hx
    rw[e]at this
    rw[Int.toNat_natCast]at this
    exact this
theorem A0r {h:AN} {a b:List AF} (ha:AY a) (h0:0<a.length) (hro:RO a) {m:Int→Int} (hm:Qr h a b m):OZ h a b=true:=by
 have hz:((List.replicate a.length (-1:Int)).set 0 0).getD 0 0=0:=by rw[FM (by simpa using h0),if_pos rfl]
 obtain⟨M',e⟩:=Vl ha hro hm a.length 0 ((List.replicate a.length (-1)).set 0 0) (by omega) ⟨by simp,fun k hk=>by
  rw[FM (by simpa using h0)]
  split
  ·rename_i e
   right
   rw[←e]
   exact hm.zero.symm
  ·left
   simp[List.getD_eq_getElem?_getD,List.getElem?_replicate,hk]⟩ (fun _=>hz) (fun k hk hj=>by
  obtain⟨j,j0,j1,_⟩:=hj
  omega)
 unfold OZ A1K
 rw[List.drop_zero]at e
 rw[e]
 rfl
/-! What is found is a map -/
theorem Zm {b:List AF} {bl:List (Int×Int)} (hb:0<b.length) (hbl:∀x∈bl,x.2<(b.length:Int)) {n:Nat}:∀ {l:List (Int×Int)} {M M':List Int},(∀x∈l,0≤x.2∧x.2<(n:Int))→M.length=n→(∀k,M.getD k 0<(b.length:Int))→Hy bl l M=some M' →
  M'.length=n∧(∀k,M'.getD k 0<(b.length:Int))∧(∀k,0≤M.getD k 0→M'.getD k 0=M.getD k 0)∧∀x∈l,0≤M'.getD x.2.toNat 0∧GI bl x.1=M'.getD x.2.toNat 0
 | [],M,M',_,hn,hk,h=>by
  have:M=M':=Option.some.inj h
  subst this
  exact⟨hn,hk,fun _ _=>rfl,fun x hx=>by cases hx⟩
 | x :: l,M,M',hl,hn,hk,h=>by
  simp only[Hy]at h
  split at h
  ·cases h
  ·rename_i hbad
   have hr:=hl x (by simp)
   have hxl:x.2.toNat<M.length:=by omega
   have htl:=lQ (n:=(b.length:Int)) (by omega) (l:=bl) x.1 hbl
   obtain⟨g1,g2,g3,g4⟩:=Zm hb hbl (l:=l) (fun y hy=>hl y (by simp[hy])) (by rw[List.length_set];exact hn) (fun k=>by
    rw[FM hxl]
    split
    ·exact htl
    ·exact hk k) h
   have hb2:0≤GI bl x.1∧(0≤M.getD x.2.toNat 0→M.getD x.2.toNat 0=GI bl x.1):=by
    unfold Xi at hbad
    rw[Bool.or_eq_true,Bool.and_eq_true,decide_eq_true_eq,decide_eq_true_eq,Bool.not_eq_true',beq_eq_false_iff_ne]at hbad
    refine⟨Int.not_lt.1 fun e=>hbad (.inl e),fun e=>Classical.byContradiction fun e2=>hbad (.inr ⟨e,e2⟩)⟩
   refine⟨g1,g2,fun k hk0=>?_,fun y hy=>?_⟩
   ·have h1:(M.set x.2.toNat (GI bl x.1)).getD k 0=M.getD k 0:=by
     rw[FM hxl]
     split
     ·rename_i e
      rw[←e]at hk0 ⊢
      exact(hb2.2 hk0).symm
     ·rfl
    rw[g3 k (by rw[h1];exact hk0),h1]
   ·rcases List.mem_cons.1 hy with rfl|hy
    ·have h1:(M.set y.2.toNat (GI bl y.1)).getD y.2.toNat 0=GI bl y.1:=by rw[FM hxl,if_pos rfl]
     have h2:=g3 y.2.toNat (by rw[h1];exact hb2.1)
     rw[h1]at h2
     exact⟨by rw[h2];exact hb2.1,h2.symm⟩
    ·exact g4 y hy
theorem Vm {hd:AN} {a b:List AF} (ha:AY a) (hb:AY b) (hb0:0<b.length):∀(r i:Nat) (M M':List Int),r+i=a.length→M.length=a.length→(∀k,M.getD k 0<(b.length:Int))→HW hd b (a.drop i) i M=some M' →
  (∀k,M'.getD k 0<(b.length:Int))∧(∀k,0≤M.getD k 0→M'.getD k 0=M.getD k 0)∧∀k:Nat,i≤k→k<a.length→0≤M'.getD k 0∧Cr hd (a.getD k (0,[])).1 (b.getD (M'.getD k 0).toNat (0,[])).1=true∧∀x∈(a.getD k (0,[])).2,0≤M'.getD x.2.toNat 0∧GI (b.getD (M'.getD k 0).toNat (0,[])).2 x.1=M'.getD x.2.toNat 0
 | 0,i,M,M',hri,_,hk,h=>by
  rw[List.drop_eq_nil_of_le (by omega)]at h
  have:M=M':=Option.some.inj h
  subst this
  exact⟨hk,fun _ _=>rfl,fun k h1 h2=>by omega⟩
 | r+1,i,M,M',hri,hn,hk,h=>by
  have hi:i<a.length:=by omega
  rw[MG hd b a M hi]at h
  split at h
  ·cases h
  ·rename_i hbad
   have hb2:0≤M.getD i 0∧Cr hd (a.getD i (0,[])).1 (b.getD (M.getD i 0).toNat (0,[])).1=true:=by
    unfold OX at hbad
    rw[Bool.or_eq_true,decide_eq_true_eq,Bool.not_eq_true']at hbad
    refine⟨Int.not_lt.1 fun e=>hbad (.inl e),?_⟩
    cases hh:Cr hd (a.getD i (0,[])).1 (b.getD (M.getD i 0).toNat (0,[])).1 with
    | true=>rfl
    | false=>exact absurd (.inr hh) hbad
   cases hma:Hy (b.getD (M.getD i 0).toNat (0,[])).2 (a.getD i (0,[])).2 M with
   | none=>rw[hma]at h;cases h
   | some M1 =>
    rw[hma]at h
    simp only at h
    obtain⟨g1,g2,g3,g4⟩:=Zm hb0 (fun x hx=>(OY hb _ x hx).2) (n:=a.length) (fun x hx=>OY ha i x hx) hn hk hma
    obtain⟨k1,k2,k3⟩:=Vm ha hb hb0 r (i+1) M1 M' (by omega) g1 g2 h
    have hkeep:∀k,0≤M.getD k 0→M'.getD k 0=M.getD k 0:=fun k hk0=>by
     have:=g3 k hk0
     rw[k2 k (by rw[this];exact hk0),this]
    refine⟨k1,hkeep,fun k h1 h2=>?_⟩
    by_cases hki:k=i
    ·subst hki
     rw[hkeep k hb2.1]
     refine⟨hb2.1,hb2.2,fun x hx=>?_⟩
     obtain⟨e1,e2⟩:=g4 x hx
     have:=k2 x.2.toNat e1
     rw[this]
     exact⟨e1,e2⟩
    ·exact k3 k (by omega) h2
theorem A1L {h:AN} {a b:List AF} (ha:AY a) (ha0:0<a.length) (hb:AY b) (hb0:0<b.length) (hg:OZ h a b=true):∃m,Qr h a b m:=by
 unfold OZ A1K at hg
 cases hm:HW h b a 0 ((List.replicate a.length (-1)).set 0 0) with
 | none=>rw[hm]at hg;cases hg
 | some M =>
  have hz:((List.replicate a.length (-1:Int)).set 0 0).getD 0 0=0:=by rw[FM (by simpa using ha0),if_pos rfl]
  obtain⟨k1,k2,k3⟩:=Vm ha hb hb0 a.length 0 ((List.replicate a.length (-1)).set 0 0) M (by omega) (by simp) (fun k=>by
   rw[FM (by simpa using ha0)]
   split
   ·omega
   ·rw[List.getD_eq_getElem?_getD,List.getElem?_replicate]
    split
    ·show (-1:Int)<_;omega
    ·show (0:Int)<_;omega) (by rw[List.drop_zero];exact hm)
  have hM0:=k2 0 (by rw[hz];omega)
  rw[hz]at hM0
  refine⟨fun i=>M.getD i.toNat 0,hM0,fun i g0 g1=>⟨(k3 i.toNat (by omega) (by omega)).1,k1 _⟩,fun i g0 g1=>(k3 i.toNat (by omega) (by omega)).2.1,fun i g0 g1 x hx=>((k3 i.toNat (by omega) (by omega)).2.2 x hx).2⟩
/-! A canonical form is led through in order -/
theorem TW {f:List AF} (hf:AY f):∀(k:Nat) (t:List Int) (n:Int),MD f t→0≤n→n<f.length→n∉t →
  ∀q,t.length<q→q<(QQX f k t n).length→∃j,j<q∧∃a∈AU f ((QQX f k t n).getD j 0),a.2=(QQX f k t n).getD q 0
 | 0,t,n,h,h0,h1,h2,q,hq1,hq2=>by simp only[QQX]at hq2;omega
 | k+1,t,n,h,h0,h1,h2,q,hq1,hq2=>by
  have key:∀(l:List (Int×Int)) (u:List Int),(∀a∈l,a∈AU f n)→MD f u→t++[n] <+: u →
    (∀q,t.length<q→q<u.length→∃j,j<q∧∃a∈AU f (u.getD j 0),a.2=u.getD q 0) →
    ∀q,t.length<q→q<(l.foldl (Al f k) u).length→∃j,j<q∧∃a∈AU f ((l.foldl (Al f k) u).getD j 0),a.2=(l.foldl (Al f k) u).getD q 0:=by
   intro l
   induction l with
   | nil=>intro u _ _ _ hu q g1 g2;exact hu q g1 g2
   | cons a l ih =>
    intro u hl hu hpre hlead
    have ha:=hl a (by simp)
    have hr:=A9 hf ha
    rw[List.foldl_cons]
    by_cases hm:a.2∈u
    ·have hs:Al f k u a=u:=by unfold Al;rw[if_pos hm]
     rw[hs]
     exact ih u (fun b hb=>hl b (by simp[hb])) hu hpre hlead
    ·have hs:Al f k u a=QQX f k u a.2:=by unfold Al;rw[if_neg hm]
     rw[hs]
     obtain⟨d1,d2⟩:=EA hf k u a.2 hu hr.1 hr.2 hm
     have hget:∀j,j<u.length→(QQX f k u a.2).getD j 0=u.getD j 0:=fun j hj=>by
      obtain⟨v,hv⟩:=d2
      rw[←hv]
      simp only[List.getD_eq_getElem?_getD]
      rw[List.getElem?_append_left hj]
     have hun:u.getD t.length 0=n:=by
      obtain⟨v,hv⟩:=hpre
      rw[←hv]
      simp[List.getD_eq_getElem?_getD]
     have hul:t.length<u.length:=by
      have:=hpre.length_le
      simp at this
      omega
     refine ih (QQX f k u a.2) (fun b hb=>hl b (by simp[hb])) d1 (hpre.trans d2) (fun q g1 g2=>?_)
     by_cases hq:q<u.length
     ·obtain⟨j,j1,b,hb,e⟩:=hlead q g1 hq
      refine⟨j,j1,b,?_,?_⟩
      ·rw[hget j (by omega)];exact hb
      ·rw[hget q hq];exact e
     ·by_cases hq2:q=u.length
      ·subst hq2
       refine⟨t.length,hul,a,?_,?_⟩
       ·rw[hget _ hul,hun];exact ha
       ·cases k with
        | zero=>simp only[QQX]at g2;omega
        | succ k =>
         have hp:u++[a.2] <+: QQX f (k+1) u a.2:=by
          rw[Da]
          exact(Eh (EA hf k) _ _ (fun b hb=>A9 hf hb) (hu.snoc hr.1 hr.2 hm)).2
         obtain⟨v,hv⟩:=hp
         rw[←hv]
         simp[List.getD_eq_getElem?_getD]
      ·exact TW hf k u a.2 hu hr.1 hr.2 hm q (by omega) g2
  rw[Da]at hq2 ⊢
  exact key _ (t++[n]) (fun a ha=>ha) (h.snoc h0 h1 h2) (List.prefix_refl _) (fun q g1 g2=>by simp only[List.length_append,List.length_singleton]at g2;omega) q hq1 hq2
theorem A0s {f:List AF} (hf:AY f) (hs:Ew f) (h0:0<f.length) (acc:Int→Int×Int→Bool):RO (TK acc f):=by
 obtain⟨hPg,hPs⟩:=Vg hf hs acc
 have hPl:=It acc f f.length
 have ho:=uS hPg (by omega)
 have hcl:=o7 (FZ acc f f.length)
 have hlead:=TW hPg (FZ acc f f.length).length [] 0 (Gd _) (by omega) (by omega) (by simp)
 have har:=fun n hn=>o9 hf hs h0 acc (n:=n) hn
 rw[hPl]at ho hcl hlead
 have hpf:(TK acc f).length=(QQX (FZ acc f f.length) f.length [] 0).length:=hcl
 intro i g0 g1
 rw[hpf]at g1
 generalize QQX (FZ acc f f.length) f.length [] 0=o at *
 obtain⟨j,j1,a,ha,e⟩:=hlead i.toNat (by simp only[List.length_nil];omega) (by omega)
 have hjm:o.getD j 0∈o:=AD _ 0 (by omega)
 have hr:=ho.ok.rng _ hjm
 rw[hPl]at hr
 rw[AU,Zj acc hr.1 hr.2]at ha
 refine⟨(j:Int),by omega,by omega,Xb o a,?_,?_⟩
 ·have:=har _ hjm
  rw[Iw ho.ok.nd (by omega)]at this
  rw[this]
  exact List.mem_map.2 ⟨a,ha,rfl⟩
 ·show B5 o a.2=i
  rw[e,Iw ho.ok.nd (by omega)]
  omega
/-! Types -/
theorem dK (x:List Int):Kn x x=true:=by
 unfold Kn
 rw[List.all_eq_true]
 intro i hi
 rw[Gk,beq_iff_eq]
 exact Qb
theorem Lf (h:AN) (t:Int):Cr h t t=true:=dK _
theorem Zn {h:AN} {f g:List AF} (hf:AY f) (kf:AY g) (ks:Ew g) {m:Int→Int} (hm:Qr h f g m) (h0:0<f.length) (p:List Int):∀n,Cb f 0 p=some n→0≤n∧n<(f.length:Int)∧Cb g 0 p=some (m n):=by
 induction p using ME with
 | h0 =>
  intro n h
  simp only[Cb,Option.some.injEq]at h
  subst h
  exact⟨by omega,by omega,by simp only[Cb];rw[hm.zero]⟩
 | h1 p e ih =>
  intro n h
  obtain⟨x,hx,a,ha,e1,e2⟩:=Vk h
  obtain⟨x0,x1,hw⟩:=ih x hx
  have hr:=A9 hf ha
  have h1:=hm.arc x x0 x1 a ha
  obtain⟨b,hb,c1,c2⟩:=TV (l:=AU g (m x)) (e:=a.1) (by rw[h1];exact(hm.rng _ hr.1 hr.2).1)
  have hw2:=uV kf ks hw hb
  rw[c1,e1,c2,h1,e2]at hw2
  rw[e2]at hr
  exact⟨hr.1,hr.2,hw2⟩
end
/- Plain: a forest of representatives; a path halved leaves the representatives as they are. -/
section
abbrev Dq (p:List Int) (n:Int):Int:=p.getD n.toNat 0
structure Fo (p:List Int) (rk:Int→Nat):Prop where
 rng:∀n,0≤n→n<(p.length:Int)→0≤Dq p n∧Dq p n<(p.length:Int)
 dec:∀n,0≤n→n<(p.length:Int)→Dq p n≠n→rk (Dq p n)<rk n
inductive Rt (p:List Int):Int→Int→Prop
 | base {n:Int} (h:Dq p n=n):Rt p n n
 | step {n r:Int} (h:Dq p n≠n) (h2:Rt p (Dq p n) r):Rt p n r
theorem Rt.det {p:List Int} {n r s:Int} (h:Rt p n r) (g:Rt p n s):r=s:=by
 induction h with
 | base h =>
  cases g with
  | base g=>rfl
  | step g _=>exact absurd h g
 | step h _ ih =>
  cases g with
  | base g=>exact absurd g h
  | step _ g2=>exact ih g2
theorem Rt.root {p:List Int} {n r:Int} (h:Rt p n r):Dq p r=r:=by
 induction h with
 | base h=>exact h
 | step _ _ ih=>exact ih
theorem Fo.ex {p:List Int} {rk:Int→Nat} (h:Fo p rk):∀(k:Nat) (n:Int),rk n≤k→0≤n→n<(p.length:Int)→∃r,Rt p n r∧0≤r∧r<(p.length:Int)
 | 0,n,hk,h0,h1=>by
  by_cases e:Dq p n=n
  ·exact⟨n,.base e,h0,h1⟩
  ·have:=h.dec n h0 h1 e
   omega
 | k+1,n,hk,h0,h1=>by
  by_cases e:Dq p n=n
  ·exact⟨n,.base e,h0,h1⟩
  ·have hd:=h.dec n h0 h1 e
   have hr:=h.rng n h0 h1
   obtain⟨r,g1,g2,g3⟩:=h.ex k (Dq p n) (by omega) hr.1 hr.2
   exact⟨r,.step e g1,g2,g3⟩
theorem Fo.root {p:List Int} {rk:Int→Nat} (h:Fo p rk) {n:Int} (h0:0≤n) (h1:n<(p.length:Int)):∃r,Rt p n r∧0≤r∧r<(p.length:Int):=h.ex (rk n) n (Nat.le_refl _) h0 h1
theorem CY {p:List Int} {n v:Int} (h0:0≤n) (h1:n<(p.length:Int)) (x:Int) (hx:0≤x):Dq (p.set n.toNat v) x=if x=n then v else Dq p x:=by
 unfold Dq
 rw[FM (by omega)]
 by_cases e:x=n
 ·subst e;rw[if_pos rfl,if_pos rfl]
 ·rw[if_neg (by omega),if_neg e]
def FN (p:List Int) (n:Int):List Int:=p.set n.toNat (Dq p (Dq p n))
theorem Pj (p:List Int) (n:Int):(FN p n).length=p.length:=by simp[FN]
theorem uX {p:List Int} {rk:Int→Nat} (h:Fo p rk) {n:Int} (h0:0≤n) (h1:n<(p.length:Int)) (hn:Dq p n≠n):Fo (FN p n) rk:=by
 have hr:=h.rng n h0 h1
 have hr2:=h.rng _ hr.1 hr.2
 have hd:=h.dec n h0 h1 hn
 have hle:rk (Dq p (Dq p n))≤rk (Dq p n):=by
  by_cases e:Dq p (Dq p n)=Dq p n
  ·rw[e];exact Nat.le_refl _
  ·exact Nat.le_of_lt (h.dec _ hr.1 hr.2 e)
 refine⟨fun x x0 x1=>?_,fun x x0 x1 hx=>?_⟩
 ·rw[Pj]at x1 ⊢
  unfold FN
  rw[CY h0 h1 x x0]
  split
  ·exact hr2
  ·exact h.rng x x0 x1
 ·rw[Pj]at x1
  unfold FN at hx ⊢
  rw[CY h0 h1 x x0]at hx ⊢
  split
  ·rename_i e
   subst e
   omega
  ·rename_i e
   rw[if_neg e]at hx
   exact h.dec x x0 x1 hx
theorem Zo {p:List Int} {rk:Int→Nat} (h:Fo p rk) {n:Int} (h0:0≤n) (h1:n<(p.length:Int)) (hn:Dq p n≠n):∀(k:Nat) (x r:Int),rk x≤k→0≤x→x<(p.length:Int)→Rt p x r→Rt (FN p n) x r:=by
 intro k
 induction k with
 | zero =>
  intro x r hk x0 x1 hx
  have e:Dq p x=x:=Classical.byContradiction fun e=>by have:=h.dec x x0 x1 e;omega
  have hxn:x≠n:=fun e2=>hn (e2▸e)
  have:=hx.det (.base e)
  rw[this]
  refine .base ?_
  unfold FN
  rw[CY h0 h1 x x0,if_neg hxn]
  exact e
 | succ k ih =>
  intro x r hk x0 x1 hx
  by_cases e:Dq p x=x
  ·have hxn:x≠n:=fun e2=>hn (e2▸e)
   have:=hx.det (.base e)
   rw[this]
   refine .base ?_
   unfold FN
   rw[CY h0 h1 x x0,if_neg hxn]
   exact e
  ·have hd:=h.dec x x0 x1 e
   have hr:=h.rng x x0 x1
   have hx2:Rt p (Dq p x) r:=by
    cases hx with
    | base g=>exact absurd g e
    | step _ g=>exact g
   by_cases hxn:x=n
   ·subst hxn
    by_cases e2:Dq p (Dq p x)=Dq p x
    ·have:=hx2.det (.base e2)
     rw[this]at hx2 ⊢
     refine .step (r:=Dq p x) ?_ ?_
     ·unfold FN
      rw[CY h0 h1 x x0,if_pos rfl,e2]
      exact e
     ·have hp:Dq (FN p x) x=Dq p x:=by
       unfold FN
       rw[CY h0 h1 x x0,if_pos rfl,e2]
      rw[hp]
      exact ih _ _ (by omega) hr.1 hr.2 hx2
    ·have hd2:=h.dec _ hr.1 hr.2 e2
     have hr2:=h.rng _ hr.1 hr.2
     have hx3:Rt p (Dq p (Dq p x)) r:=by
      cases hx2 with
      | base g=>exact absurd g e2
      | step _ g=>exact g
     have hp:Dq (FN p x) x=Dq p (Dq p x):=by
      unfold FN
      rw[CY h0 h1 x x0,if_pos rfl]
     refine .step ?_ ?_
     ·rw[hp]
      intro e3
      rw[e3]at hd2
      omega
     ·rw[hp]
      exact ih _ _ (by omega) hr2.1 hr2.2 hx3
   ·have hp:Dq (FN p n) x=Dq p x:=by
     unfold FN
     rw[CY h0 h1 x x0,if_neg hxn]
    refine .step ?_ ?_
    ·rw[hp];exact e
    ·rw[hp]
     exact ih _ _ (by omega) hr.1 hr.2 hx2
def EC (p q:List Int):Prop:=p.length=q.length∧∀x r,0≤x→x<(p.length:Int)→(Rt p x r↔Rt q x r)
theorem EC.refl (p:List Int):EC p p:=⟨rfl,fun _ _ _ _=>Iff.rfl⟩
theorem EC.trans {p q s:List Int} (h:EC p q) (g:EC q s):EC p s :=
 ⟨h.1.trans g.1,fun x r x0 x1=>(h.2 x r x0 x1).trans (g.2 x r x0 (by rw[←h.1];exact x1))⟩
theorem dL {p:List Int} {rk:Int→Nat} (h:Fo p rk) {n:Int} (h0:0≤n) (h1:n<(p.length:Int)) (hn:Dq p n≠n):EC p (FN p n):=by
 refine⟨(Pj p n).symm,fun x r x0 x1=>⟨fun hx=>Zo h h0 h1 hn _ x r (Nat.le_refl _) x0 x1 hx,fun hx=>?_⟩⟩
 obtain⟨s,hs,-,-⟩:=h.root x0 x1
 have:=Zo h h0 h1 hn _ x s (Nat.le_refl _) x0 x1 hs
 have e:=this.det hx
 rw[←e]
 exact hs
end
/- Functions of unify.classes: find, add. -/
section
def Vn (h:AN) (p ty:List Int) (ar:List (List (Int×Int))):List (Nat×Obj):=[(1,.box 93 true [.p II h,.sr 2 T3 0 p.length,.sr 3 T3 0 ty.length,.sr 4 Ee 0 ar.length]),(2,.arr 3 T3 p),(3,.arr 3 T3 ty),(4,.arr 59 Ee ar)]
theorem Xj (h:AN) (ty:List Int) (ar:List (List (Int×Int))) (rk:Int→Nat) {p:List Int} (hp:Fo p rk) {n:Int} (h0:0≤n) (h1:n<(p.length:Int)):Ca Tryz.prog 76 [.bp 1 [] 0,.p T3 n] (Vn h p ty ar) [1]
  (fun res objs'=>∃(p':List Int) (r:Int),res=.p T3 r∧objs'=Vn h p' ty ar∧Fo p' rk∧EC p p'∧Rt p n r):=by
 refine DJ Tryz.func76 (by kernel_rfl) rfl Tryz.ntmps76 (by simp only[List.length_cons,List.length_nil];omega) (by kernel_rfl) rfl rfl (AH []) AI ?_
 intro w0 K O0 ρ0 hc hok1 hok2
 simp only[BU,Vn]
 repeat'(first|exact trivial|refine eS rfl ?_|refine AB ?_|refine rX [0,1,4,13] hc ?_ ?_|refine rC ?_ ?_<;>intro AA<;>try(cases AA;done))
 refine AK (ι:={x:List Int×Int//Fo x.1 rk∧EC p x.1∧0≤x.2∧x.2<(p.length:Int)∧(∀r,Rt x.1 x.2 r→Rt p n r)}) (fun x=>⟨[(0,.bp 1 [] 0),(1,.p T3 x.1.2)],[(1,.box 93 true [.p II h,.sr 2 T3 0 p.length,.sr 3 T3 0 ty.length,.sr 4 Ee 0 ar.length]),(2,.arr 3 T3 x.1.1),(3,.arr 3 T3 ty),(4,.arr 59 Ee ar)]⟩) (fun x=>rk x.1.2) ⟨(p,n),hp,EC.refl p,h0,h1,fun _ g=>g⟩ (AC [(1,.nm 1),(2,.nm 2),(3,.nm 3),(4,.nm 4)] rfl rfl ?_ ?_) (fun x=>?_)
 ·first|exact eN|refine eM ?_
 ·first|exact eN|refine eM ?_
 ·obtain⟨⟨q,m⟩,hq,hs,m0,m1,hrt⟩:=x
  simp only at hq hs m0 m1 hrt
  have hql:q.length=p.length:=hs.1.symm
  have hr:=hq.rng m m0 (by omega)
  simp only
  repeat'(first|exact trivial|refine eS rfl ?_|refine AB ?_|refine rX [0,1,4,13] hc ?_ ?_|refine rC ?_ ?_<;>intro AA<;>try(cases AA;done))
  ·exact⟨m0,m1⟩
  ·exact⟨⟨m0,m1⟩,⟨hr.1,by rw[←hql];exact hr.2⟩,m0,m1⟩
  ·exact⟨m0,m1⟩
  ·have hne:Dq q m≠m:=AA
   have hd:=hq.dec m m0 (by omega) hne
   have hr2:=hq.rng _ hr.1 hr.2
   have hd2:rk (Dq q (Dq q m))≤rk (Dq q m):=by
    by_cases e:Dq q (Dq q m)=Dq q m
    ·rw[e];exact Nat.le_refl _
    ·exact Nat.le_of_lt (hq.dec _ hr.1 hr.2 e)
   have hsm:=dL hq m0 (by omega) hne
   have hpm:Dq (FN q m) m=Dq q (Dq q m):=by
    unfold FN
    rw[CY m0 (by omega) m m0,if_pos rfl]
   refine⟨⟨(FN q m,Dq q (Dq q m)),uX hq m0 (by omega) hne,hs.trans hsm,hr2.1,by rw[←hql];exact hr2.2,fun r hr3=>hrt r ?_⟩,by simp only;omega,AC [(1,.nm 1),(2,.nm 2),(3,.nm 3),(4,.nm 4)] rfl rfl ?_ ?_⟩
   ·refine(hsm.2 m r m0 (by omega)).2 (.step ?_ ?_)
    ·rw[hpm]
     intro e
     rw[e]at hd2
     omega
    ·rw[hpm]
     exact hr3
   ·first|exact eN|refine eM ?_
    rfl
   ·first|exact eN|refine eM ?_
    exact hpm
  ·have he:Dq q m=m:=by simpa using AA
   refine Ev.ent (σ':=⟨[(4,.p T3 m)],Vn h q ty ar⟩) ?_ (AC [(1,.nm 1),(2,.nm 2),(3,.nm 3),(4,.nm 4)] rfl rfl ?_ ?_)
   ·exact Bp hc [.tmp 4] rfl (.inl rfl) (.p T3 m) eT ⟨q,m,rfl,rfl,hq,hs,hrt m (.base he)⟩
   ·unfold Vn
    rw[hql]
    first|exact eN|refine eM ?_
   ·first|exact eN|refine eM ?_
end
end Go.Proofs.YtmejfnhmgbhkmabGreat.Fw
