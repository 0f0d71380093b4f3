/- Contracts of the program's and the reference's functions, and the plain laws of what they compute: C31 C32 C33 C34 C35 D1 D4 N6 R07a R07b R07c R07d R07e Sorted R07f R07g R07h R15c P8 G1 G3 G2 G4 G5 G6 P1 P9 R08a P3 P4 P5 P2 P7 W1 W2 W3 W4 D2 D3 W5 U1 U2 U3 U4 U5 U6 U7 U8 U9 U10 N7 U11 U12 N8 U14 H2 H3 V1 V2. -/
/- Functions of grammarlabref05: Features. -/
import Derived.Test.YtmejfnhmgbhkmabGreatIYA
import Derived.Test.YtmejfnhmgbhkmabGreatIZJ
import Derived.Test.YtmejfnhmgbhkmabGreatIZI
set_option linter.unusedVariables false
set_option linter.unusedSimpArgs false
namespace Go.Proofs.YtmejfnhmgbhkmabGreat.Fw
open Go
attribute [local irreducible] Ev
attribute [local go_sem] Wz AN List.toList_toArray Br evG evK S8 E2 Il Fk E6 HG PE LR Cb Ck Kk CB CY frz Y3 Ff Cj Aw Ew BM AV.frz AV.frzs AV.drp AV.drps AV.names AV.namess aq Fh JH Ic P6 Hc BN BU H0 Dm G9 Dn HB HA HC Qj Mb F0 Id Ey Di Qk Nr mT H1 HD Jf Ed Dp QA Cm Dq EO Ns HE Nt Jg Hf Ie Dr DD F7 DF GM Cn EP Co Ds E0 CB CM O9 Np Ln Fc He Hd Je Me PC LQ Jk Ji Ii PD Jj Ij VA Mg Mf AV.trn AV.trns EJ Ca Obj.trn II XS DE Du Dj Dt CF ER Aj lk F9 Fg GJ sV Y2 S9 Y5 PB i8 i9 s6 AV.cells Bu Hy Ma Ih Md B7 LO Ty.cell1 G8 EK DC FF Ll Ec Ib Jd Nm Fe FK LM Pz Qi Jb Hb Uz Wc PA LP CX Hz RV.flat Ty.flat Ty.size St.add upd S7 BR Value.oneCell' JW Ty.dflt G7 My GW M6 List.take_succ_cons List.take_zero List.length_cons XH XI M5 IC J0 GI ID nQ E7 Kt Ku Kv Kw OC OD Kx HK Qz Option.map_some Option.map_none Option.bind_some Option.getD_some Option.getD_none Option.isNone_none Option.isNone_some Bool.and_true Bool.true_and Bool.and_false Bool.false_and Bool.not_true Bool.not_false if_true if_false List.length_cons List.length_nil and_true true_and and_self List.all_cons List.all_nil List.append_nil List.nil_append List.cons_append List.getElem?_cons_zero List.getElem?_cons_succ List.getElem?_nil List.map_cons List.map_nil List.set_cons_zero List.set_cons_succ List.isEmpty_nil List.isEmpty_cons decide_true decide_false beq_self_eq_true bne_self_eq_false Nat.zero_add Nat.add_zero Nat.sub_zero Int.toNat_natCast Int.toNat_zero Int.toNat_one List.take_length List.length_append List.length_singleton true_or or_true or_self false_or or_false Ty.agg.injEq Ty.slice.injEq Ty.prod.injEq Ty.int.injEq Option.some.injEq beq_iff_eq JX evMG evMQ nT GY Jx Bj IB GC PX H9 GX HL It JN Ly LX Lz QD Jy M0 M2 IA AW Ad Op.operands Call.operands List.filterMap_cons List.filterMap_nil List.append_eq Bool.cond_false_right Bool.cond_true_left cond_true cond_false implies_true decide_eq_true_eq beq_true beq_false Bool.or_true Bool.or_false Bool.true_or Bool.false_or Option.isSome_some Ex Kl ET GK U0 Mc Ez FM FL HF GL Ig Jh TA Y4 Nq zG Ik E1 Fd H4 A1 XJ List.drop_zero DJ GZ VY Cs J1 Bn AV.fgt AV.fgts Obj.fgt Af Ap AW EW L1 Bx IE List.any_cons List.any_nil ZV XM VZ XN J2 OI qs List.flatMap_cons List.flatMap_nil List.cons_append tn Vb J5 List.take_succ_cons List.drop_succ_cons Ve Gc Be cC K2 Cd Cz Ar E5 Ir B1 EV DI GV HJ F1 Hj
attribute [local go_sem] ty1 ty2 ty3 ty4 ty5 ty9 uJ uK uL uM uN uO uP uQ uR uS uT uU uV uW uX uY uZ u3 u4 u5 u6 u7 u9 vA vB vC vD vE vF vG vH vI vJ vK vL vM vN vO vP vQ vR vS vT vU vV vW vX vY vZ v4 v5 v6 v7 v8 v9 wA wB wC wD wE wF wG wH wI wJ wK wL wM wN wO wP wQ wR wS wT wU cH cI cJ cK cL cM cN cO cQ cR cS cU cV cW cX cZ c6 c7 c8 c9 dA dB dC dD dE dF dG dH dI dJ dK dL dM dN dP dQ dR dS dT dU dV dW dX dY dZ d3 d4 d5 d6 d7 d8 d9 eA eB eC eD eE eF eG eH eI eJ eK eL eO eP eQ eU eW eX eY eZ e7 e9 fA fB fC fD fE fF fG fH fI fJ fK fL fM fN fO fP fQ fR fS fT fU fV fW fX fY fZ f3 f4 f5 f8 f9 gA gB gC gD gE gF
set_option maxRecDepth 100000
set_option maxHeartbeats 4000000
section
attribute [local go_sem] LC Hr KE Oc K7
abbrev pZ:=ByteArray×Int
theorem CK {d:List AJ} (h:BH d=0):(Bp d).2=0∧(DN d).length≤64∧KI d=0:=by
 unfold BH at h
 split at h
 ·rename_i h1;exact absurd h h1
 ·rename_i h1
  split at h
  ·cases h
  ·rename_i h2
   split at h
   ·rename_i h3;exact absurd h h3
   ·rename_i h3
    exact⟨Classical.byContradiction h1,by omega,Classical.byContradiction h3⟩
def SG (d:List AJ) (s:ByteArray):pZ:=(s,Cp (Au d) (FX d s).1)
def ED (d:List AJ):List pZ×Int:=if BH d≠0 then ([],BH d) else ((DN d).map (SG d),0)
theorem TL {α β:Type} (f:α→β) (l:List α) (d:α) {k:Nat} (h:k<l.length):(l.take (k+1)).map f=(l.take k).map f++[f (l.getD k d)]:=by
 rw[Ab l d h,List.map_append]
 rfl
theorem V3 {α β:Type} (f:α→β) (l:List α) {k:Nat} (h:k≤l.length):((l.take k).map f).length=k:=by simp[h]
def LD:Ae:={ ins:=[EH],pre:=fun _=>True,out:=fun(d,_)=>[.p Xa (ED d).1,.p XZ (ED d).2] }
theorem YG:Ag Tryz.prog 61 LD:=by
 refine AR Tryz.func61 (by kernel_rfl) rfl Tryz.ntmps61 (by decide) (by kernel_rfl) (AF [(84,LC),(59,Hr),(85,KE),(95,Oc),(96,K7)]) (AD UU (AD NR (AD Rz (AD YB (AD UK AH))))) ?_
 rintro w0 O0 ⟨d,u⟩ hc - -
 simp only[LD,AN]
 repeat'(first|exact trivial|refine eS rfl ?_|refine AB ?_|refine rX [0,2,3,4,5,7,8,9,10,15,27] hc ?_ ?_|refine rC ?_ ?_<;>intro AA<;>try(cases AA;done))
 ·have h1:ED d=([],BH d):=by unfold ED;rw[if_pos AA]
  exact AG hc [.tmp 2,.tmp 3] rfl (.inl rfl) (by simp) (by rw[h1];first|exact eR|refine Al ?_)
 ·have h5:BH d=0:=by simpa using AA
  obtain⟨hz,-,-⟩:=CK h5
  obtain⟨h3,-,-⟩:=Bc hz
  exact⟨(A3 h3).2.1,fun x hx=>(I4 h3 x hx).2⟩
 ·have h5:BH d=0:=by simpa using AA
  obtain⟨hz,hf64,-⟩:=CK h5
  obtain⟨h3,-,hl⟩:=Bc hz
  obtain⟨hsup,hd,-⟩:=A3 h3
  have hr:ED d=((DN d).map (SG d),0):=by unfold ED;rw[if_neg (by rw[h5];simp)]
  rw[hl]
  generalize DN d=f at *
  refine AK (ι:={i:Nat//i≤f.length}) (fun i=>⟨[(0,.p EH d),(5,.p IK (Au d)),(7,.p Bl f),(8,.sr 49 oY 0 ((f.take i.1).map (SG d)).length),(9,.p (.int .i64) (i.1:Int))],[(49,.arr 162 oY ((f.take i.1).map (SG d)))]⟩) (fun i=>f.length-i.1) ⟨0,Nat.zero_le _⟩ (AC [(49,.nil)] rfl rfl ?_ ?_) (fun i=>?_)
  ·first|exact eN|refine eM ?_
  ·first|exact eN|refine eM ?_
  ·obtain⟨i,hi⟩:=i
   have hlen:=V3 (SG d) f hi
   have hs:=fun h:i<f.length=>TL (SG d) f ByteArray.empty h
   simp only
   repeat'(first|exact trivial|refine eS rfl ?_|refine AB ?_|refine rX [0,2,3,4,5,7,8,9,10,15,27] hc ?_ ?_|refine rC ?_ ?_<;>intro AA<;>try(cases AA;done))
   ·exact⟨AA,hsup,hd⟩
   ·refine⟨AA,?_⟩
    rw[hlen]
    simp only[AO]
    omega
   ·omega
   ·have hi2:i<f.length:=Int.ofNat_lt.1 AA
    have e:=hs hi2
    refine⟨⟨i+1,hi2⟩,by simp only;omega,AC [(49,.nm 49)] rfl rfl ?_ ?_⟩
    ·simp only[e]
     first|exact eN|refine eM ?_
     rfl
    ·simp only[e]
     first|exact eN|refine eM ?_
   ·have hi2:f.take i=f:=List.take_of_length_le (Int.ofNat_le.1 AA)
    rw[hi2]
    refine GD [49] ?_
    exact AG hc [.tmp 2,.tmp 3] rfl (.inl rfl) (by simp) (by rw[hr];first|exact eR|refine Al ?_)
end
/- Functions of grammarlabref05: Values. -/
section
attribute [local go_sem] LC Hr KE k8 Vr
def V7 (d:List AJ) (l:List AQ) (f:List ByteArray) (t:Nat) (n:Nat):List (Int×Int) :=
 ((List.range n).filter fun(i:Nat)=>(R9 d l (t:Int) (f.getD i ByteArray.empty)).2).map fun(i:Nat)=>((i:Int),Vq l (R9 d l (t:Int) (f.getD i ByteArray.empty)).1)
def KK (d:List AJ) (l:List AQ) (f:List ByteArray) (n:Nat):List (List (Int×Int)):=(List.range n).map fun t=>V7 d l f t f.length
def BJ (d:List AJ):List (List (Int×Int))×Int:=if BH d≠0 then ([],BH d) else (KK d (Au d) (DN d) (Au d).length,0)
theorem k9 (d:List AJ) (l:List AQ) (f:List ByteArray) (t n:Nat):V7 d l f t (n+1)=V7 d l f t n++if (R9 d l (t:Int) (f.getD n ByteArray.empty)).2=true then [((n:Int),Vq l (R9 d l (t:Int) (f.getD n ByteArray.empty)).1)] else []:=by
 unfold V7
 rw[List.range_succ,List.filter_append,List.map_append]
 congr 1
 rw[List.filter_cons,List.filter_nil]
 split<;>rfl
theorem p4 (d:List AJ) (l:List AQ) (f:List ByteArray) (t n:Nat):(V7 d l f t n).length≤n:=by
 unfold V7
 rw[List.length_map]
 exact Nat.le_trans (List.length_filter_le _ _) (by simp)
theorem Zx (d:List AJ) (l:List AQ) (f:List ByteArray) (n:Nat):KK d l f (n+1)=KK d l f n++[V7 d l f n f.length]:=by simp[KK,List.range_succ]
theorem UV (d:List AJ) (l:List AQ) (f:List ByteArray) (n:Nat):(KK d l f n).length=n:=by simp[KK]
theorem p5 {d:List AJ} {l:List AQ} (h:∀x∈l,x.2.length≤64) (t:Int) (s:ByteArray):(R9 d l t s).1.length≤64:=by
 unfold R9
 refine SA t s d ?_
 rw[List.getD_eq_getElem?_getD]
 cases hh:l[0]? with
 | none=>simp
 | some x=>exact h x (List.mem_of_getElem? hh)
def NT:Ae:={ ins:=[EH],pre:=fun _=>True,out:=fun(d,_)=>[.p uI (BJ d).1,.p XZ (BJ d).2] }
theorem Zy:Ag Tryz.prog 58 NT:=by
 refine AR Tryz.func58 (by kernel_rfl) rfl Tryz.ntmps58 (by decide) (by kernel_rfl) (AF [(84,LC),(59,Hr),(85,KE),(86,k8),(87,Vr)]) (AD UU (AD NR (AD Rz (AD pW (AD pK AH))))) ?_
 rintro w0 O0 ⟨d,u⟩ hc - -
 simp only[NT,AN]
 repeat'(first|exact trivial|refine eS rfl ?_|refine AB ?_|refine rX [0,2,3,4,5,7,8,9,10,11,12,13,17,29,35,49] hc ?_ ?_|refine rC ?_ ?_<;>intro AA<;>try(cases AA;done))
 ·have h1:BJ d=([],BH d):=by unfold BJ;rw[if_pos AA]
  exact AG hc [.tmp 2,.tmp 3] rfl (.inl rfl) (by simp) (by rw[h1];first|exact eR|refine Al ?_)
 ·have h5:BH d=0:=by simpa using AA
  obtain⟨hz,-,-⟩:=CK h5
  obtain⟨h3,-,-⟩:=Bc hz
  exact⟨(A3 h3).2.1,fun x hx=>(I4 h3 x hx).2⟩
 ·have h5:BH d=0:=by simpa using AA
  obtain⟨hz,hf64,hdz⟩:=CK h5
  obtain⟨h3,hlen,hl⟩:=Bc hz
  obtain⟨hsup,hd,-⟩:=A3 h3
  have hr:BJ d=(KK d (Au d) (DN d) (Au d).length,0):=by unfold BJ;rw[if_neg (by rw[h5];simp)]
  have hnr:=gU h3 hdz
  have hwid:=ML h3
  have hll:(Au d).length≤256:=by rw[Gn];exact hlen
  rw[hl]
  generalize Au d=l at *
  generalize DN d=f at *
  have hiw:=fun t s=>p5 (d:=d) hwid t s
  refine AK (ι:={t:Nat//t≤l.length}) (fun t=>⟨[(0,.p EH d),(5,.p IK l),(7,.p Bl f),(8,.sr 61 Vi 0 (KK d l f t.1).length),(9,.p (.int .i64) (t.1:Int))],[(61,.arr 111 Vi (KK d l f t.1))]⟩) (fun t=>l.length-t.1) ⟨0,Nat.zero_le _⟩ (AC [(61,.nil)] rfl rfl ?_ ?_) (fun t=>?_)
  ·first|exact eN|refine eM ?_
   rfl
  ·first|exact eN|refine eM ?_
   rfl
  ·obtain⟨t,ht⟩:=t
   have hlen:=UV d l f t
   have hs:=Zx d l f t
   simp only
   repeat'(first|exact trivial|refine eS rfl ?_|refine AB ?_|refine rX [0,2,3,4,5,7,8,9,10,11,12,13,17,29,35,49] hc ?_ ?_|refine rC ?_ ?_<;>intro AA<;>try(cases AA;done))
   ·refine AK (ι:={i:Nat//i≤f.length}) (fun i=>⟨[(0,.p EH d),(5,.p IK l),(7,.p Bl f),(8,.sr 61 Vi 0 (KK d l f t).length),(9,.p (.int .i64) (t:Int)),(10,.sr 57 oX 0 (V7 d l f t i.1).length),(11,.p (.int .i64) (i.1:Int))],[(61,.arr 111 Vi (KK d l f t)),(57,.arr 151 oX (V7 d l f t i.1))]⟩) (fun i=>f.length-i.1) ⟨0,Nat.zero_le _⟩ (AC [(61,.nm 61),(57,.nil)] rfl rfl ?_ ?_) (fun i=>?_)
    ·first|exact eN|refine eM ?_
     rfl
    ·first|exact eN|refine eM ?_
     rfl
    ·obtain⟨i,hi⟩:=i
     have hol:=p4 d l f t i
     have hos:=k9 d l f t i
     simp only
     repeat'(first|exact trivial|refine eS rfl ?_|refine AB ?_|refine rX [0,2,3,4,5,7,8,9,10,11,12,13,17,29,35,49] hc ?_ ?_|refine rC ?_ ?_<;>intro AA<;>try(cases AA;done))
     ·exact⟨AA,hnr,by assumption,hll,hwid⟩
     ·refine⟨Nat.le_trans (hiw _ _) (by decide),?_⟩
      simp only[AO]
      omega
     ·omega
     ·have hi2:i<f.length:=Int.ofNat_lt.1 (by assumption)
      rw[if_pos AA]at hos
      refine⟨⟨i+1,hi2⟩,by simp only;omega,AC [(61,.nm 61),(57,.nm 57)] rfl rfl ?_ ?_⟩
      ·simp only[hos]
       first|exact eN|refine eM ?_
      ·simp only[hos]
       first|exact eN|refine eM ?_
     ·omega
     ·have hi2:i<f.length:=Int.ofNat_lt.1 (by assumption)
      rw[if_neg (by rw[AA];simp),List.append_nil]at hos
      refine⟨⟨i+1,hi2⟩,by simp only;omega,AC [(61,.nm 61),(57,.nm 57)] rfl rfl ?_ ?_⟩
      ·simp only[hos]
       first|exact eN|refine eM ?_
      ·simp only[hos]
       first|exact eN|refine eM ?_
     ·rw[hlen]
      simp only[AO]
      omega
     ·omega
     ·have ht2:t<l.length:=Int.ofNat_lt.1 (by assumption)
      have hi2:i=f.length:=by omega
      subst hi2
      refine⟨⟨t+1,ht2⟩,by simp only;omega,AC [(61,.nm 61)] rfl rfl ?_ ?_⟩
      ·simp only[hs]
       first|exact eN|refine eM ?_
      ·simp only[hs]
       first|exact eN|refine eM ?_
   ·have ht2:t=l.length:=by omega
    subst ht2
    refine GD [61] ?_
    exact AG hc [.tmp 2,.tmp 3] rfl (.inl rfl) (by simp) (by rw[hr];first|exact eR|refine Al ?_)
end
/- Functions of grammarlabref06: decl. -/
section
attribute [local go_sem] cs0
def JQ (l:List ByteArray) (n:Nat):List FV:=(List.range n).map fun k=>(l.getD (2*k) ByteArray.empty,l.getD (2*k+1) ByteArray.empty)
theorem SH (l:List ByteArray) (n:Nat):JQ l (n+1)=JQ l n++[(l.getD (2*n) ByteArray.empty,l.getD (2*n+1) ByteArray.empty)]:=by simp[JQ,List.range_succ]
theorem UW (l:List ByteArray) (n:Nat):(JQ l n).length=n:=by simp[JQ]
def V8 (s:ByteArray):List ByteArray:=if Ak s ByteArray.empty=true then [] else [s]
def FH (n s:ByteArray) (l:List ByteArray):AJ:=(n,V8 s,JQ l (l.length / 2))
def gW:Ae:={ ins:=[T9,T9,Bl],pre:=fun(_,_,l,_)=>List.length l≤1000,out:=fun(n,s,l,_)=>[.p kF (FH n s l)] }
theorem xH:Ag Tryz.prog 62 gW:=by
 refine AR Tryz.func62 (by kernel_rfl) rfl Tryz.ntmps62 (by decide) (by kernel_rfl) (AF []) AH ?_
 rintro w0 O0 ⟨n,s,l,u⟩ hc-hl
 have hl:l.length≤1000:=hl
 simp only[gW,AN]
 repeat'(first|exact trivial|refine eS rfl ?_|refine AB ?_|refine rX [0,1,2,6,7,8,12,20] hc ?_ ?_|refine rC ?_ ?_<;>intro AA<;>try(cases AA;done))
 ·have hcd:=AA
  refine GD [14] ?_
  refine AK (ι:={k:Nat//2*k≤l.length}) (fun k=>⟨[(2,.p Bl l),(6,.bp 6 [] 0),(7,.bp 7 [] 0),(8,.p (.int .i64) ((2*k.1:Nat):Int))],[(6,.box 119 true [.p T9 ByteArray.empty,.raw (.slice none 0 0),.raw (.slice none 0 0)]),(7,.box 119 true [.p T9 n,.p Bl [s],.sr 36 Zb 0 (JQ l k.1).length]),(36,.arr 164 Zb (JQ l k.1))]⟩) (fun k=>l.length-2*k.1) ⟨0,Nat.zero_le _⟩ (AC [(6,.nm 6),(7,.nm 7),(36,.nil)] rfl rfl ?_ ?_) (fun k=>?_)
  ·first|exact eN|refine eM ?_
   exact⟨rfl,rfl⟩
  ·first|exact eN|refine eM ?_
  ·obtain⟨k,hk⟩:=k
   have hpl:=UW l k
   have hps:=SH l k
   simp only
   repeat'(first|exact trivial|refine eS rfl ?_|refine AB ?_|refine rX [0,1,2,6,7,8,12,20] hc ?_ ?_|refine rC ?_ ?_<;>intro AA<;>try(cases AA;done))
   ·exact eV
   ·refine⟨by exact eV,⟨by exact eV,by exact eV⟩,⟨by exact eV,by exact eV⟩,?_⟩
    rw[hpl]
    simp only[AO]
    exact eV
   ·exact eV
   ·have hk2:2*k+1<l.length:=by exact eV
    have e1:((2*k:Nat):Int)+1=((2*k+1:Nat):Int):=by omega
    refine⟨⟨k+1,by omega⟩,by simp only;omega,AC [(6,.nm 6),(7,.nm 7),(36,.nm 36)] rfl rfl ?_ ?_⟩
    ·simp only[hps]
     first|exact eN|refine eM ?_
     rw[e1]
     rfl
    ·simp only[hps]
     first|exact eN|refine eM ?_
     show ((2*k:Nat):Int)+2=((2*(k+1):Nat):Int)
     omega
   ·have hk2:k=l.length / 2:=by exact eV
    refine GD [36] ?_
    have hr:FH n s l=(n,[s],JQ l k):=by
     unfold FH V8
     rw[←hk2,if_neg (by rw[show Ak s ByteArray.empty=false from hcd];simp)]
    exact AG hc [.cell 6 119] rfl (.inl rfl) (by simp) (by rw[hr];first|exact eR|refine Al ?_)
 ·have hcd:=AA
  refine AK (ι:={k:Nat//2*k≤l.length}) (fun k=>⟨[(2,.p Bl l),(6,.bp 6 [] 0),(7,.bp 7 [] 0),(8,.p (.int .i64) ((2*k.1:Nat):Int))],[(6,.box 119 true [.p T9 ByteArray.empty,.raw (.slice none 0 0),.raw (.slice none 0 0)]),(7,.box 119 true [.p T9 n,.p Bl ([]:List ByteArray),.sr 36 Zb 0 (JQ l k.1).length]),(36,.arr 164 Zb (JQ l k.1))]⟩) (fun k=>l.length-2*k.1) ⟨0,Nat.zero_le _⟩ (AC [(6,.nm 6),(7,.nm 7),(36,.nil)] rfl rfl ?_ ?_) (fun k=>?_)
  ·first|exact eN|refine eM ?_
   exact⟨rfl,rfl⟩
  ·first|exact eN|refine eM ?_
  ·obtain⟨k,hk⟩:=k
   have hpl:=UW l k
   have hps:=SH l k
   simp only
   repeat'(first|exact trivial|refine eS rfl ?_|refine AB ?_|refine rX [0,1,2,6,7,8,12,20] hc ?_ ?_|refine rC ?_ ?_<;>intro AA<;>try(cases AA;done))
   ·exact eV
   ·refine⟨by exact eV,⟨by exact eV,by exact eV⟩,⟨by exact eV,by exact eV⟩,?_⟩
    rw[hpl]
    simp only[AO]
    exact eV
   ·exact eV
   ·have hk2:2*k+1<l.length:=by exact eV
    have e1:((2*k:Nat):Int)+1=((2*k+1:Nat):Int):=by omega
    refine⟨⟨k+1,by omega⟩,by simp only;omega,AC [(6,.nm 6),(7,.nm 7),(36,.nm 36)] rfl rfl ?_ ?_⟩
    ·simp only[hps]
     first|exact eN|refine eM ?_
     rw[e1]
     rfl
    ·simp only[hps]
     first|exact eN|refine eM ?_
     show ((2*k:Nat):Int)+2=((2*(k+1):Nat):Int)
     omega
   ·have hk2:k=l.length / 2:=by exact eV
    refine GD [36] ?_
    have hr:FH n s l=(n,([]:List ByteArray),JQ l k):=by
     unfold FH V8
     rw[←hk2,if_pos (show Ak s ByteArray.empty=true from hcd)]
    exact AG hc [.cell 6 119] rfl (.inl rfl) (by simp) (by rw[hr];first|exact eR|refine Al ?_)
end
/- Functions of grammarlabref06: Prelude. -/
section
attribute [local go_sem] gW cs0 cs1 cs2 cs3 cs4 cs5 cs6 cs7 cs8
def Gp:List AJ:=[
 FH { data:=#[116,111,112] } { data:=#[] } [],
 FH { data:=#[108,105,115,116] } { data:=#[116,111,112] } [],
 FH { data:=#[99,111,110,115] } { data:=#[108,105,115,116] } [{ data:=#[70,73,82,83,84] },{ data:=#[116,111,112] },{ data:=#[82,69,83,84] },{ data:=#[108,105,115,116] }],
 FH { data:=#[110,117,108,108] } { data:=#[108,105,115,116] } [],
 FH { data:=#[100,108,105,115,116] } { data:=#[116,111,112] } [{ data:=#[76,73,83,84] },{ data:=#[108,105,115,116] },{ data:=#[76,65,83,84] },{ data:=#[108,105,115,116] }],
 FH { data:=#[105,110,100,101,120] } { data:=#[116,111,112] } [],
 FH { data:=#[104,97,110,100,108,101] } { data:=#[105,110,100,101,120] } [],
 FH { data:=#[101,118,101,110,116] } { data:=#[105,110,100,101,120] } [],
 FH { data:=#[101,110,116,105,116,121] } { data:=#[105,110,100,101,120] } [],
 FH { data:=#[114,101,108] } { data:=#[116,111,112] } [{ data:=#[76,65,66,69,76] },{ data:=#[104,97,110,100,108,101] }],
 FH { data:=#[113,101,113] } { data:=#[116,111,112] } [{ data:=#[72,73,71,72] },{ data:=#[104,97,110,100,108,101] },{ data:=#[76,79,87] },{ data:=#[104,97,110,100,108,101] }],
 FH { data:=#[115,101,109] } { data:=#[116,111,112] } [{ data:=#[84,79,80] },{ data:=#[104,97,110,100,108,101] },{ data:=#[73,78,68,69,88] },{ data:=#[105,110,100,101,120] },{ data:=#[82,69,76,83] },{ data:=#[100,108,105,115,116] },{ data:=#[67,79,78,83] },{ data:=#[100,108,105,115,116] }],
 FH { data:=#[115,105,103,110] } { data:=#[116,111,112] } [{ data:=#[83,69,77] },{ data:=#[115,101,109] },{ data:=#[65,82,71,83] },{ data:=#[108,105,115,116] }]]
def NU:Ae:={ ins:=[],pre:=fun _=>True,out:=fun _=>[.p EH Gp] }
theorem Zz:Ag Tryz.prog 36 NU:=by
 refine AR Tryz.func36 (by kernel_rfl) rfl Tryz.ntmps36 (by decide) (by kernel_rfl) (AF [(62,gW)] [3,6,12,14,16,18,20]) (AD xH AH) ?_
 rintro w0 O0 u hc - -
 simp only[NU,AN]
 repeat'(first|exact trivial|refine eS rfl ?_|refine AB ?_|refine rX [0] hc ?_ ?_|refine rC ?_ ?_<;>intro AA<;>try(cases AA;done))
 exact AG hc [.tmp 0] rfl (.inl rfl) (by simp) (by unfold Gp;first|exact eR|refine Al ?_)
end
/- Functions of grammarlabref06: Compile. -/
section
attribute [local go_sem] NT Hr gT LD
abbrev IP:=ByteArray×List Int×List Int×List (Int×Int)
abbrev AP:=List IP×List pZ
def EX (l:List AQ) (v:List (List (Int×Int))) (n:Nat):List IP:=(List.range n).map fun i=>((l.getD i c0).1,(l.getD i c0).2,YA l (i:Int),v.getD i [])
theorem Z0 (l:List AQ) (v:List (List (Int×Int))) (n:Nat):EX l v (n+1)=EX l v n++[((l.getD n c0).1,(l.getD n c0).2,YA l (n:Int),v.getD n [])]:=by simp[EX,List.range_succ]
theorem LE (l:List AQ) (v:List (List (Int×Int))) (n:Nat):(EX l v n).length=n:=by simp[EX]
def Fs (d:List AJ):AP:=(EX (Au d) (BJ d).1 (Au d).length,(ED d).1)
def A9 (d:List AJ):AP×Int:=if (BJ d).2≠0 then (([],[]),(BJ d).2) else (Fs d,0)
def NV:Ae:={ ins:=[EH],pre:=fun _=>True,out:=fun(d,_)=>[.p TH (A9 d).1,.p XZ (A9 d).2] }
theorem Z1:Ag Tryz.prog 35 NV:=by
 refine AR Tryz.func35 (by kernel_rfl) rfl Tryz.ntmps35 (by decide) (by kernel_rfl) (AF [(58,NT),(59,Hr),(60,gT),(61,LD)]) (AD Zy (AD NR (AD xC (AD YG AH)))) ?_
 rintro w0 O0 ⟨d,u⟩ hc - -
 simp only[NV,AN]
 repeat'(first|exact trivial|refine eS rfl ?_|refine AB ?_|refine rX [0,2,3,4,5,6,8,9,10,18,29] hc ?_ ?_|refine rC ?_ ?_<;>intro AA<;>try(cases AA;done))
 ·have h1:A9 d=(([],[]),(BJ d).2):=by unfold A9;rw[if_pos AA]
  exact AG hc [.cell 2 37,.tmp 3] rfl (.inl rfl) (by simp) (by rw[h1];first|exact eR|refine Al ?_)
 ·have hv:(BJ d).2=0:=by simpa using AA
  have h5:BH d=0:=by
   unfold BJ at hv
   split at hv
   ·rename_i h;exact absurd hv h
   ·rename_i h;exact Classical.byContradiction h
  obtain⟨hz,hf64,hdz⟩:=CK h5
  obtain⟨h3,hlen,hl⟩:=Bc hz
  have hr:A9 d=(Fs d,0):=by unfold A9;rw[if_neg (by rw[hv];simp)]
  have hvl:(BJ d).1.length=(Au d).length:=by
   unfold BJ
   rw[if_neg (by rw[h5];simp)]
   exact UV _ _ _ _
  have hwid:=ML h3
  have hll:(Au d).length≤256:=by rw[Gn];exact hlen
  unfold Fs at hr
  rw[hl]
  generalize Au d=l at *
  generalize (BJ d).1=v at *
  refine AK (ι:={n:Nat//n≤l.length}) (fun n=>⟨[(0,.p EH d),(2,.bp 2 [] 0),(4,.p uI v),(6,.p IK l),(8,.bp 8 [] 0),(9,.p (.int .i64) (n.1:Int))],[(2,.box 37 true [.raw (.slice none 0 0),.raw (.slice none 0 0)]),(8,.box 37 true [.sr 53 kE 0 (EX l v n.1).length,.raw (.slice none 0 0)]),(53,.arr 113 kE (EX l v n.1))]⟩) (fun n=>l.length-n.1) ⟨0,Nat.zero_le _⟩ (AC [(2,.nm 2),(8,.nm 8),(53,.nil)] rfl rfl ?_ ?_) (fun n=>?_)
  ·first|exact eN|refine eM ?_
   exact⟨rfl,rfl⟩
  ·first|exact eN|refine eM ?_
  ·obtain⟨n,hn⟩:=n
   have htl:=LE l v n
   have hts:=Z0 l v n
   simp only
   repeat'(first|exact trivial|refine eS rfl ?_|refine AB ?_|refine rX [0,2,3,4,5,6,8,9,10,18,29] hc ?_ ?_|refine rC ?_ ?_<;>intro AA<;>try(cases AA;done))
   ·refine⟨AA,AA,⟨AA,hll,hwid⟩,by rw[hvl];exact AA,?_⟩
    rw[htl]
    simp only[AO]
    omega
   ·omega
   ·have hn2:n<l.length:=Int.ofNat_lt.1 AA
    refine⟨⟨n+1,hn2⟩,by simp only;omega,AC [(2,.nm 2),(8,.nm 8),(53,.nm 53)] rfl rfl ?_ ?_⟩
    ·simp only[hts]
     first|exact eN|refine eM ?_
    ·simp only[hts]
     first|exact eN|refine eM ?_
   ·have hn2:n=l.length:=by omega
    subst hn2
    refine GD [53] ?_
    exact AG hc [.cell 2 37,.tmp 3] rfl (.inl rfl) (by simp) (by rw[hr];first|exact eR|refine Al ?_)
def DA (d:List AJ):AP:=if d.length≤20∧(A9 d).2=0 then (A9 d).1 else (A9 Gp).1
end
/- Functions of bits: word, Subset; hier: Subsumes. -/
section
def WA:Ae:={ ins:=[A7,T3],pre:=fun(_,i,_)=>(0:Int)≤i,out:=fun(b,i,_)=>[.p NC (FG b i)],lend:=true }
attribute [local go_sem] WA
theorem p6:Ag Tryz.prog 139 WA:=by
 refine AR Tryz.func139 (by kernel_rfl) rfl Tryz.ntmps139 (by decide) (by kernel_rfl) (AF []) AH ?_
 rintro w0 O0 ⟨b,i,u⟩ hc-hi
 simp only[WA,AN]
 repeat'(first|exact trivial|refine eS rfl ?_|refine AB ?_|refine rX [0,1,4,8] hc ?_ ?_|refine rC ?_ ?_<;>intro AA<;>try(cases AA;done))
 ·exact⟨hi,AA⟩
 ·have h1:FG b i=b.getD i.toNat 0:=by unfold FG;rw[if_pos AA]
  exact AG hc [.tmp 4] rfl (.inl rfl) (by simp) (by rw[h1];first|exact eR|refine Al ?_)
 ·have h1:FG b i=0:=by unfold FG;rw[if_neg (Int.not_lt.2 AA)]
  exact AG hc [.tmp 4] rfl (.inl rfl) (by simp) (by rw[h1];first|exact eR|refine Al ?_)
def NW (a b:List Int):Bool:=(List.range a.length).all fun i=>Bm .andNot .u64 (a.getD i 0) (FG b (i:Int))==0
def YH (a b:List Int) (n:Nat):Bool:=(List.range n).all fun i=>Bm .andNot .u64 (a.getD i 0) (FG b (i:Int))==0
theorem Z2 (a b:List Int) (n:Nat):YH a b (n+1)=(YH a b n&&Bm .andNot .u64 (a.getD n 0) (FG b (n:Int))==0):=by
 unfold YH
 rw[List.range_succ,List.all_append]
 simp
def KL:Ae:={ ins:=[A7,A7],pre:=fun _=>True,out:=fun(a,b,_)=>[.p .bool (NW a b)],lend:=true }
attribute [local go_sem] KL
theorem Z3:Ag Tryz.prog 98 KL:=by
 refine AR Tryz.func98 (by kernel_rfl) rfl Tryz.ntmps98 (by decide) (by kernel_rfl) (AF [(139,WA)]) (AD p6 AH) ?_
 rintro w0 O0 ⟨a,b,u⟩ hc ⟨⟨hal,-⟩,-⟩ -
 simp only[AO]at hal
 simp only[KL,AN]
 repeat'(first|exact trivial|refine eS rfl ?_|refine AB ?_|refine rX [0,1,4,5,6,7,8,9,10,19] hc ?_ ?_|refine rC ?_ ?_<;>intro AA<;>try(cases AA;done))
 have hfp:NW a b=YH a b a.length:=rfl
 refine AK (ι:={n:Nat//n≤a.length∧YH a b n=true}) (fun n=>⟨[(1,.p A7 b),(7,.p A7 a),(8,.p (.int .i64) (a.length:Int)),(9,.p (.int .i64) (n.1:Int))],[]⟩) (fun n=>a.length-n.1) ⟨0,Nat.zero_le _,rfl⟩ (AC [] rfl rfl ?_ ?_) (fun n=>?_)
 ·first|exact eN|refine eM ?_
 ·first|exact eN|refine eM ?_
 ·obtain⟨n,hn,hall⟩:=n
  have hs:=Z2 a b n
  simp only
  repeat'(first|exact trivial|refine eS rfl ?_|refine AB ?_|refine rX [0,1,4,5,6,7,8,9,10,19] hc ?_ ?_|refine rC ?_ ?_<;>intro AA<;>try(cases AA;done))
  ·exact AA
  ·have hn2:n<a.length:=by exact eV
   have h1:NW a b=false:=by
    unfold NW
    rw[List.all_eq_false]
    exact⟨n,List.mem_range.2 hn2,by simpa using AA⟩
   exact AG hc [.tmp 4] rfl (.inl rfl) (by simp) (by rw[h1];first|exact eR|refine Al ?_)
  ·exact eV
  ·have hn2:n<a.length:=by exact eV
   refine⟨⟨n+1,hn2,?_⟩,by simp only;omega,AC [] rfl rfl ?_ ?_⟩
   ·rw[hs,hall]
    simpa using AA
   ·first|exact eN|refine eM ?_
   ·first|exact eN|refine eM ?_
  ·have hn2:n=a.length:=by exact eV
   subst hn2
   exact AG hc [.tmp 4] rfl (.inl rfl) (by simp) (by rw[hfp,hall];first|exact eR|refine Al ?_)
abbrev UX:IP:=(ByteArray.empty,[],[],[])
def HX (h:AP) (a b:Int):Bool:=NW (h.1.getD b.toNat UX).2.1 (h.1.getD a.toNat UX).2.1
end
/- Functions of bits: normal, And, Equal; hier: Meet. -/
section
attribute [local go_sem] KL
def NX:Ae:={ ins:=[A7],pre:=fun(b,_)=>List.length b≤100000,out:=fun(b,_)=>[.p A7 (BB b)] }
attribute [local go_sem] NX
theorem Z4:Ag Tryz.prog 97 NX:=by
 refine AR Tryz.func97 (by kernel_rfl) rfl Tryz.ntmps97 (by decide) (by kernel_rfl) (AF []) AH ?_
 rintro w0 O0 ⟨b,u⟩ hc-hb
 have hb:b.length≤100000:=hb
 simp only[NX,AN]
 repeat'(first|exact trivial|refine eS rfl ?_|refine AB ?_|refine rX [0,2,3,15] hc ?_ ?_|refine rC ?_ ?_<;>intro AA<;>try(cases AA;done))
 refine AK (ι:={n:Nat//n≤b.length∧CN b n=CN b b.length}) (fun n=>⟨[(0,.p A7 b),(3,.p (.int .i64) (n.1:Int))],[]⟩) (fun n=>n.1) ⟨b.length,Nat.le_refl _,rfl⟩ (AC [] rfl rfl ?_ ?_) (fun n=>?_)
 ·first|exact eN|refine eM ?_
 ·first|exact eN|refine eM ?_
 ·obtain⟨n,hn,hg⟩:=n
  simp only
  repeat'(first|exact trivial|refine eS rfl ?_|refine AB ?_|refine rX [0,2,3,15] hc ?_ ?_|refine rC ?_ ?_<;>intro AA<;>try(cases AA;done))
  ·constructor
   ·exact eV
   ·intro h
    refine⟨?_,?_⟩<;>exact eV
  ·exact eV
  ·obtain⟨h1,h2⟩:=AA
   obtain⟨m,rfl⟩:∃m,n=m+1:=⟨n-1,by omega⟩
   have e:(((m+1:Nat):Int)-1)=(m:Int):=by omega
   rw[e]at h2
   have h2:b.getD m 0=0:=h2
   have hg2:CN b m=CN b b.length:=by
    rw[←hg]
    show _=if b.getD m 0=0 then CN b m else m+1
    rw[if_pos h2]
   refine⟨⟨m,by omega,hg2⟩,by simp,AC [] rfl rfl ?_ ?_⟩
   ·first|exact eN|refine eM ?_
   ·simp only[e]
    first|exact eN|refine eM ?_
  ·exact Int.ofNat_le.2 hn
  ·have hend:CN b n=n:=by
    cases n with
    | zero=>rfl
    | succ m =>
     have e:(((m+1:Nat):Int)-1)=(m:Int):=by omega
     rw[e]at AA
     have h2:=AA (by omega)
     have h2:¬b.getD m 0=0:=h2
     show (if b.getD m 0=0 then CN b m else m+1)=m+1
     rw[if_neg h2]
   have h1:BB b=b.take n:=by unfold BB;rw[←hg,hend]
   rw[←h1]
   exact AG hc [.tmp 2] rfl (.inl rfl) (by simp) (by first|exact eR|refine Al ?_)
def Ft (g:Nat→Int) (n i:Nat):List Int:=(List.range n).map fun j=>if j<i then g j else 0
theorem UY (g:Nat→Int) (n i:Nat):(Ft g n i).length=n:=by simp[Ft]
theorem Z5 (g:Nat→Int) (n:Nat):Ft g n 0=List.replicate n 0:=by
 apply List.ext_getElem
 ·simp[Ft]
 ·intro j h1 h2
  simp[Ft]
theorem lA (g:Nat→Int) (n i:Nat):(Ft g n i).set i (g i)=Ft g n (i+1):=by
 apply List.ext_getElem
 ·simp[Ft]
 ·intro j h1 h2
  simp only[Ft,List.getElem_set,List.getElem_map,List.getElem_range]
  split
  ·rename_i e;rw[if_pos (by omega),e]
  ·rename_i e
   by_cases hj:j<i
   ·rw[if_pos hj,if_pos (by omega)]
   ·rw[if_neg hj,if_neg (by omega)]
def WB (a b:List Int) (i:Nat):Int:=Bm .and .u64 (a.getD i 0) (b.getD i 0)
def FD (a b:List Int):List Int:=BB (Ft (WB a b) (min a.length b.length) (min a.length b.length))
def gX:Ae:={ ins:=[A7,A7],pre:=fun(a,_,_)=>List.length a≤100000,out:=fun(a,b,_)=>[.p A7 (FD a b)] }
attribute [local go_sem] gX
theorem xI:Ag Tryz.prog 63 gX:=by
 refine AR Tryz.func63 (by kernel_rfl) rfl Tryz.ntmps63 (by decide) (by kernel_rfl) (AF [(97,NX)]) (AD Z4 AH) ?_
 rintro w0 O0 ⟨a,b,u⟩ hc-ha
 have ha:a.length≤100000:=ha
 simp only[gX,AN]
 repeat'(first|exact trivial|refine eS rfl ?_|refine AB ?_|refine rX [0,1,4,5,6,14,15,16] hc ?_ ?_|refine rC ?_ ?_<;>intro AA<;>try(cases AA;done))
 ·split<;>simp only[AO]<;>dsimp only[Ty.den]at *<;>omega
 ·have hmin:Int.toNat (if ((List.length b:Nat):Int)<((List.length a:Nat):Int) then ((List.length b:Nat):Int) else ((List.length a:Nat):Int))=min (List.length a) (List.length b):=by split<;>omega
  rw[hmin]
  have hr:FD a b=BB (Ft (WB a b) (min a.length b.length) (min a.length b.length)):=rfl
  have hma:min a.length b.length≤a.length:=Nat.min_le_left _ _
  have hmb:min a.length b.length≤b.length:=Nat.min_le_right _ _
  generalize min a.length b.length=n at *
  refine AK (ι:={i:Nat//i≤n}) (fun i=>⟨[(0,.p A7 a),(1,.p A7 b),(5,.sr 12 NC 0 n),(14,.p (.int .i64) (n:Int)),(15,.p (.int .i64) (i.1:Int))],[(12,.arr 165 NC (Ft (WB a b) n i.1))]⟩) (fun i=>n-i.1) ⟨0,Nat.zero_le _⟩ (AC [(12,.nm 12)] rfl rfl ?_ ?_) (fun i=>?_)
  ·first|exact eN|refine eM ?_
   rw[Z5]
  ·first|exact eN|refine eM ?_
  ·obtain⟨i,hi⟩:=i
   have hfl:=UY (WB a b) n i
   simp only
   repeat'(first|exact trivial|refine eS rfl ?_|refine AB ?_|refine rX [0,1,4,5,6,14,15,16] hc ?_ ?_|refine rC ?_ ?_<;>intro AA<;>try(cases AA;done))
   ·have hi2:i<n:=Int.ofNat_lt.1 AA
    exact⟨by exact eV,by exact eV,AA⟩
   ·exact eV
   ·have hi2:i<n:=Int.ofNat_lt.1 AA
    refine⟨⟨i+1,hi2⟩,by simp only;omega,AC [(12,.nm 12)] rfl rfl ?_ ?_⟩
    ·simp only[←lA]
     first|exact eN|refine eM ?_
     rfl
    ·first|exact eN|refine eM ?_
   ·have hi2:i=n:=by omega
    subst hi2
    have ht:(Ft (WB a b) i i).take i=Ft (WB a b) i i:=List.take_of_length_le (by rw[hfl];exact Nat.le_refl _)
    refine GD [12] ?_
    repeat'(first|exact trivial|refine eS rfl ?_|refine AB ?_|refine rX [0,1,4,5,6,14,15,16] hc ?_ ?_|refine rC ?_ ?_<;>intro AA<;>try(cases AA;done))
    ·rw[ht,hfl]
     dsimp only[Ty.den]at *
     omega
    ·rw[ht]
     exact AG hc [.tmp 4] rfl (.inl rfl) (by simp) (by rw[hr];first|exact eR|refine Al ?_)
def DQ (a b:List Int):Bool:=NW a b&&NW b a
def Qc:Ae:={ ins:=[A7,A7],pre:=fun _=>True,out:=fun(a,b,_)=>[.p .bool (DQ a b)],lend:=true }
attribute [local go_sem] Qc
theorem lB:Ag Tryz.prog 66 Qc:=by
 refine AR Tryz.func66 (by kernel_rfl) rfl Tryz.ntmps66 (by decide) (by kernel_rfl) (AF [(98,KL)]) (AD Z3 AH) ?_
 rintro w0 O0 ⟨a,b,u⟩ hc - -
 simp only[Qc,AN]
 repeat'(first|exact trivial|refine eS rfl ?_|refine AB ?_|refine rX [0,1,4] hc ?_ ?_|refine rC ?_ ?_<;>intro AA<;>try(cases AA;done))
 exact AG hc [.tmp 4] rfl (.inl rfl) (by simp) (by unfold DQ;first|exact eR|refine Al ?_)
def EI (c:List Int):Nat→List IP→Int
 | _,[]=>-1
 | k,t :: l=>if DQ t.2.1 c=true then (k:Int) else EI c (k+1) l
theorem Z6 (c:List Int) (l:List IP) {k:Nat} (h:k<l.length):EI c k (l.drop k)=if DQ (l.getD k UX).2.1 c=true then (k:Int) else EI c (k+1) (l.drop (k+1)):=by
 rw[List.drop_eq_getElem_cons h]
 have e:l.getD k UX=l[k]:=by simp[List.getD_eq_getElem?_getD,h]
 rw[e]
 rfl
theorem p7 (c:List Int) (t:IP):B9 Tryz.prog 65 [.p kE t,.bp 1 [] 0] [(1,.box 107 false [.p A7 c])] [1] (fun res objs'=>res=.p .bool (DQ t.2.1 c)∧objs'=[(1,.box 107 false [.p A7 c])]):=by
 refine Bw Tryz.func65 (by kernel_rfl) rfl Tryz.ntmps65 (by simp only[List.length_cons,List.length_nil];omega) (by kernel_rfl) rfl rfl (AF [(66,Qc)]) (AD lB AH) ?_
 intro w0 K O0 ρ0 hc hok1 hok2
 simp only[A1]
 repeat'(first|exact trivial|refine eS rfl ?_|refine AB ?_|refine rX [0,1,2,3] hc ?_ ?_|refine rC ?_ ?_<;>intro AA<;>try(cases AA;done))
 refine Ev.ent (σ':=⟨[(3,.p .bool (DQ t.2.1 c))],[(1,.box 107 false [.p A7 c])]⟩) ?_ (AC [(1,.nm 1)] rfl rfl ?_ ?_)
 ·exact Am hc [.tmp 3] rfl (.inl rfl) (.p .bool (DQ t.2.1 c)) eT ⟨rfl,rfl⟩
 ·first|exact eN|refine eM ?_
 ·first|exact eN|refine eM ?_
theorem lC (l:List IP) (c:List Int) (hl:l.length≤100000):B9 Tryz.prog 64 [.p WZ l,.clo 65 [1]] [(1,.box 107 false [.p A7 c])] [1] (fun res objs'=>res=.p T3 (EI c 0 l)∧objs'=[(1,.box 107 false [.p A7 c])]):=by
 refine Bw Tryz.func64 (by kernel_rfl) rfl Tryz.ntmps64 (by simp only[List.length_cons,List.length_nil];omega) (by kernel_rfl) rfl rfl (AF []) AH ?_
 intro w0 K O0 ρ0 hc hok1 hok2
 simp only[A1]
 repeat'(first|exact trivial|refine eS rfl ?_|refine AB ?_|refine rX [0,1,4,5,7,8,9,16] hc ?_ ?_|refine rC ?_ ?_<;>intro AA<;>try(cases AA;done))
 refine AK (ι:={k:Nat//k≤l.length∧EI c k (l.drop k)=EI c 0 l}) (fun k=>⟨[(0,.p WZ l),(1,.clo 65 [1]),(7,.p (.int .i64) (l.length:Int)),(8,.p (.int .i64) (k.1:Int))],[(1,.box 107 false [.p A7 c])]⟩) (fun k=>l.length-k.1) ⟨0,Nat.zero_le _,rfl⟩ (AC [(1,.nm 1)] rfl rfl ?_ ?_) (fun k=>?_)
 ·first|exact eN|refine eM ?_
 ·first|exact eN|refine eM ?_
 ·obtain⟨k,hk,hf⟩:=k
  have hst:=fun h:k<l.length=>Z6 c l h
  simp only
  repeat'(first|exact trivial|refine eS rfl ?_|refine AB ?_|refine rX [0,1,4,5,7,8,9,16] hc ?_ ?_|refine rC ?_ ?_<;>intro AA<;>try(cases AA;done))
  ·have hk2:k<l.length:=Int.ofNat_lt.1 AA
   have hs2:=hst hk2
   refine cP 5 hc ?_ ?_
   ·exact AA
   ·refine rM hc (p7 c (l.getD k UX)) [(1,.nm 1)] [] ?_ ?_ ?_
    ·first|exact eN|refine eM ?_
    ·first|exact eN|refine eM ?_
    ·rintro _ _ ⟨rfl,rfl⟩
     refine⟨[(1,.nm 1)],.p .bool (DQ (l.getD k UX).2.1 c),[(1,.box 107 false [.p A7 c])],rfl,rfl,?_,?_,rfl,rfl,CU ?_⟩
     ·first|exact eN|refine eM ?_
     ·first|exact eN|refine eM ?_
     ·repeat'(first|exact trivial|refine eS rfl ?_|refine AB ?_|refine rX [0,1,4,5,7,8,9,16] hc ?_ ?_|refine rC ?_ ?_<;>intro AA<;>try(cases AA;done))
      ·have AA:DQ (l.getD k UX).2.1 c=true:=AA
       rw[if_pos AA,hf]at hs2
       refine Ev.ent (σ':=⟨[(4,.p (.int .i64) (k:Int))],[(1,.box 107 false [.p A7 c])]⟩) ?_ (AC [(1,.nm 1)] rfl rfl ?_ ?_)
       ·exact Am hc [.tmp 4] rfl (.inl rfl) (.p T3 (k:Int)) eT ⟨by rw[hs2],rfl⟩
       ·first|exact eN|refine eM ?_
       ·first|exact eN|refine eM ?_
      ·omega
      ·have AA:DQ (l.getD k UX).2.1 c=false:=AA
       rw[if_neg (by rw[AA];simp)]at hs2
       refine⟨⟨k+1,hk2,hs2.symm.trans hf⟩,by simp only;omega,AC [(1,.nm 1)] rfl rfl ?_ ?_⟩
       ·first|exact eN|refine eM ?_
       ·first|exact eN|refine eM ?_
  ·have hk2:l.drop k=[]:=List.drop_eq_nil_of_le (Int.ofNat_le.1 AA)
   rw[hk2]at hf
   have hf:(-1:Int)=EI c 0 l:=hf
   refine Ev.ent (σ':=⟨[(4,.p (.int .i64) (-1))],[(1,.box 107 false [.p A7 c])]⟩) ?_ (AC [(1,.nm 1)] rfl rfl ?_ ?_)
   ·exact Am hc [.tmp 4] rfl (.inl rfl) (.p T3 (-1)) eT ⟨by rw[hf],rfl⟩
   ·first|exact eN|refine eM ?_
   ·first|exact eN|refine eM ?_
def BO (h:AP) (t:Int):List Int:=(h.1.getD t.toNat UX).2.1
def DX (h:AP) (a b:Int):Int×Bool :=
 if (FD (BO h a) (BO h b)).length=0 then (0,false) else if EI (FD (BO h a) (BO h b)) 0 h.1<0 then (0,false) else (EI (FD (BO h a) (BO h b)) 0 h.1,true)
def SI:Ae:={ ins:=[TH,T3,T3],pre:=fun(h,a,b,_)=>((0:Int)≤a∧a<(List.length (h:AP).1:Int))∧((0:Int)≤b∧b<(List.length (h:AP).1:Int))∧List.length (h:AP).1≤100000∧(∀x∈(h:AP).1,x.2.1.length≤100000),out:=fun(h,a,b,_)=>[.p T3 (DX h a b).1,.p .bool (DX h a b).2],lend:=true }
theorem gY:Ag Tryz.prog 37 SI:=by
 refine AR Tryz.func37 (by kernel_rfl) rfl Tryz.ntmps37 (by decide) (by kernel_rfl) (AF [(63,gX)]) (AD xI AH) ?_
 rintro w0 O0 ⟨⟨ht,hf⟩,a,b,u⟩ hc-⟨ha,hb,hl,hx⟩
 simp only[SI,AN]
 refine Ev.ent (σ':=⟨[(0,.p TH (ht,hf)),(1,.p T3 a),(2,.p T3 b)],[]⟩) ?_ (AC [] rfl rfl ?_ ?_)
 ·repeat'(first|exact trivial|refine eS rfl ?_|refine AB ?_|refine rX [0,1,2,3,6,7,8,9,25,31] hc ?_ ?_|refine rC ?_ ?_<;>intro AA<;>try(cases AA;done))
  ·refine⟨ha,hb,?_⟩
   have h1:Int.toNat a<List.length ht:=(Int.toNat_lt ha.1).2 ha.2
   exact hx _ (AE (ht:List IP) UX h1)
  ·have hr:DX (ht,hf) a b=(0,false):=by
    unfold DX
    rw[if_pos (by unfold BO;exact Int.ofNat.inj AA)]
   exact AG hc [.tmp 6,.tmp 7] rfl (.inl rfl) (by simp) (by rw[hr];first|exact eR|refine Al ?_)
  ·have hcd:∀c,c=FD (List.getD ht (Int.toNat a) (ByteArray.empty,[],[],[])).2.1 (List.getD ht (Int.toNat b) (ByteArray.empty,[],[],[])).2.1→c=FD (BO (ht,hf) a) (BO (ht,hf) b):=fun c h=>h
   have hmf:DX (ht,hf) a b=if EI (FD (BO (ht,hf) a) (BO (ht,hf) b)) 0 ht<0 then (0,false) else (EI (FD (BO (ht,hf) a) (BO (ht,hf) b)) 0 ht,true):=by
    unfold DX
    rw[if_neg (fun h=>AA (by unfold BO at h;exact congrArg Int.ofNat h))]
   generalize hcg:FD (List.getD ht (Int.toNat a) (ByteArray.empty,[],[],[])).2.1 (List.getD ht (Int.toNat b) (ByteArray.empty,[],[],[])).2.1=c at *
   rw[←hcd c rfl]at hmf
   refine cP 3 hc ?_ ?_
   ·trivial
   ·refine rM hc (lC ht c hl) [(1,.nm 8)] [] ?_ ?_ ?_
    ·first|exact eN|refine eM ?_
    ·first|exact eN|refine eM ?_
    ·rintro _ _ ⟨rfl,rfl⟩
     refine⟨[(8,.nm 1)],.p T3 (EI c 0 ht),[(8,.box 107 false [.p A7 c])],rfl,rfl,?_,?_,rfl,rfl,?_⟩
     ·first|exact eN|refine eM ?_
     ·first|exact eN|refine eM ?_
     ·generalize EI c 0 ht=m at *
      refine rL [0,1,2,3,6,7,8,9,25,31] hc ?_ ?_
      ·trivial
      ·repeat'(first|exact trivial|refine eS rfl ?_|refine AB ?_|refine rX [0,1,2,3,6,7,8,9,25,31] hc ?_ ?_|refine rC ?_ ?_<;>intro AA<;>try(cases AA;done))
       ·rw[if_pos AA]at hmf
        exact AG hc [.tmp 6,.tmp 7] rfl (.inl rfl) (by simp) (by rw[hmf];first|exact eR|refine Al ?_)
       ·rw[if_neg (Int.not_lt.2 AA)]at hmf
        exact AG hc [.tmp 6,.tmp 7] rfl (.inl rfl) (by simp) (by rw[hmf];first|exact eR|refine Al ?_)
 ·first|exact eN|refine eM ?_
 ·first|exact eN|refine eM ?_
end
/- Plain: hier.Meet finds the most general common subtype. -/
section
structure gZ (l:List (List Int)):Prop where
 wds:∀c∈l,HW c
 some:∀c∈l,∃i,BK c i=true
 wid:∀c∈l,c.length≤64
 meet:∀a∈l,∀b∈l,(∃i,BK a i=true∧BK b i=true)→∃t∈l,∀i,BK t i=(BK a i&&BK b i)
structure Bs (l:List (List Int)):Prop where
 wds:∀c∈l,HW c
 some:∀c∈l,∃i,BK c i=true
theorem UZ {l:List (List Int)} {k:Nat} (h:¬k<l.length):l.getD k []=[]:=by
 rw[List.getD_eq_getElem?_getD,List.getElem?_eq_none (by omega)];rfl
theorem Bs.get {l:List (List Int)} (h:Bs l) (k:Nat):HW (l.getD k []):=by
 by_cases hk:k<l.length
 ·exact h.wds _ (Ct hk)
 ·rw[UZ hk]
  intro x hx
  cases hx
theorem xJ {l:List (List Int)} (h:Bs l) (i k:Nat):Bs (F3 l i k):=by
 unfold F3
 split
 ·rename_i hc
  rw[Bool.and_eq_true,decide_eq_true_eq]at hc
  refine⟨fun c hc'=>?_,fun c hc'=>?_⟩
  ·rcases List.mem_append.1 hc' with hc'|hc'
   ·exact h.wds c hc'
   ·have:c=FE (l.getD i []) (l.getD k []):=by simpa using hc'
    rw[this]
    exact V0 (h.get i) (h.get k)
  ·rcases List.mem_append.1 hc' with hc'|hc'
   ·exact h.some c hc'
   ·have:c=FE (l.getD i []) (l.getD k []):=by simpa using hc'
    rw[this]
    have hne:FE (l.getD i []) (l.getD k [])≠[]:=by
     intro e
     rw[e]at hc
     exact absurd hc.1 (by simp)
    have hz:HW (QQX .and (l.getD i []) (l.getD k []) (l.getD i []).length):=by
     intro x hx
     unfold QQX at hx
     obtain⟨j,-,rfl⟩:=List.mem_map.1 hx
     rw[QQQ,Gk (A4 (h.get i) _) (A4 (h.get k) _)]
     have h1:=A4 (h.get i) j
     have h2:((l.getD i []).getD j 0).toNat &&& ((l.getD k []).getD j 0).toNat≤((l.getD i []).getD j 0).toNat:=Nat.and_le_left
     have h3:=h1.1
     have h4:=h1.2
     exact⟨Int.natCast_nonneg _,by omega⟩
    obtain⟨j,hj⟩:=Zv hz hne
    exact⟨j,by unfold FE;rw[MD];exact hj⟩
 ·exact h
theorem hC {i:Nat}:∀ {n k:Nat} {l:List (List Int)},Bs l→Bs (F4 i n k l)
 | 0,_,_,h=>h
 | n+1,k,l,h=>by
  unfold F4
  split
  ·exact hC (xJ h i k)
  ·exact h
theorem hH:∀ {n i:Nat} {l:List (List Int)},Bs l→Bs (Hq n i l)
 | 0,_,_,h=>h
 | n+1,i,l,h=>by
  unfold Hq
  split
  ·exact hH (hC h)
  ·exact h
theorem lD {d:List AJ} (h3:BE d=0):Bs (AZ d):=by
 obtain⟨-,h2,-⟩:=A3 h3
 have hnl:=Ef d d.length
 rw[List.take_length]at hnl
 have hal:(AU d).length≤4096:=by omega
 refine⟨fun c hc=>?_,fun c hc=>?_⟩
 ·unfold AZ at hc
  obtain⟨s,-,rfl⟩:=List.mem_map.1 hc
  exact(Dy (d:=d) hal s 0).2.1
 ·unfold AZ at hc
  obtain⟨s,hs,rfl⟩:=List.mem_map.1 hc
  obtain⟨j,hj,e⟩:=FC ByteArray.empty hs
  have hsd:0≤A8 d s:=by
   obtain⟨x,hx,e⟩:=FU hs
   rw[←e];exact Ei hx
  exact⟨j,(Dy (d:=d) hal s j).1.2 ⟨hj,by rw[e];exact MI hsd⟩⟩
theorem Z7 {d:List AJ} (h3:BE d=0) (hl:(Ay (AZ d)).length≤256):gZ (Ay (AZ d)):=by
 obtain⟨-,h2,-⟩:=A3 h3
 have hb:Bs (Ay (AZ d)):=hH (lD h3)
 have hm:=Vz hl
 refine⟨hb.wds,hb.some,NQ (MK h2),fun a ha b hb2 hi=>?_⟩
 obtain⟨q,hq,rfl⟩:=FC [] ha
 obtain⟨p,hp,rfl⟩:=FC [] hb2
 have key:∀q p,q<(Ay (AZ d)).length→p<(Ay (AZ d)).length→JP (Ay (AZ d)) q p→(∃i,BK ((Ay (AZ d)).getD q []) i=true∧BK ((Ay (AZ d)).getD p []) i=true) →
   ∃t∈Ay (AZ d),∀i,BK t i=(BK ((Ay (AZ d)).getD q []) i&&BK ((Ay (AZ d)).getD p []) i):=by
  intro q p hq hp hmm hi
  have hand:=Qb (hb.get q) (hb.get p)
  rcases hmm with hmm|hmm
  ·obtain⟨i,i1,i2⟩:=hi
   have:=hand i
   rw[hmm,i1,i2]at this
   unfold BK at this
   simp at this
  ·exact⟨_,hmm,hand⟩
 rcases Nat.lt_trichotomy p q with h|h|h
 ·exact key q p hq hp (hm q p h hq) hi
 ·subst h
  exact⟨_,Ct hq,fun i=>by rw[Bool.and_self]⟩
 ·obtain⟨t,ht,e⟩:=key p q hp hq (hm p q h hp) (by obtain⟨i,i1,i2⟩:=hi;exact⟨i,i2,i1⟩)
  exact⟨t,ht,fun i=>by rw[e i,Bool.and_comm]⟩
def lE (h:AP):Prop:=gZ (h.1.map fun t=>t.2.1)∧h.1.length≤256
theorem KM (d:List AJ):lE (A9 d).1:=by
 unfold A9
 split
 ·exact⟨⟨fun c h=>(by cases h),fun c h=>(by cases h),fun c h=>(by cases h),fun c h=>(by cases h)⟩,by simp⟩
 ·rename_i hv
  have hv:(BJ d).2=0:=Classical.byContradiction hv
  have h5:BH d=0:=by
   unfold BJ at hv
   split at hv
   ·rename_i h;exact absurd hv h
   ·rename_i h;exact Classical.byContradiction h
  obtain⟨hz,-,-⟩:=CK h5
  obtain⟨h3,hlen,-⟩:=Bc hz
  have hf:=Z7 h3 hlen
  have hmem:∀c,c∈((Fs d).1.map fun t=>t.2.1)↔c∈Ay (AZ d):=by
   intro c
   have e:((Fs d).1.map fun t=>t.2.1)=(Au d).map fun x=>x.2:=by
    show ((EX _ _ _).map fun t=>t.2.1)=_
    unfold EX
    rw[List.map_map]
    apply List.ext_getElem
    ·simp
    ·intro i h1 h2
     simp[List.getD_eq_getElem?_getD,show i<(Au d).length by simpa using h1]
   rw[e]
   constructor
   ·intro h
    obtain⟨x,hx,rfl⟩:=List.mem_map.1 h
    obtain⟨b,hb,rfl⟩:=DP.1 hx
    exact hb
   ·intro h
    exact List.mem_map.2 ⟨_,DP.2 ⟨c,h,rfl⟩,rfl⟩
  refine⟨⟨fun c h=>hf.wds c ((hmem c).1 h),fun c h=>hf.some c ((hmem c).1 h),fun c h=>hf.wid c ((hmem c).1 h),fun a ha b hb hi=>?_⟩,?_⟩
  ·obtain⟨t,ht,e⟩:=hf.meet a ((hmem a).1 ha) b ((hmem b).1 hb) hi
   exact⟨t,(hmem t).2 ht,e⟩
  ·show (EX _ _ _).length≤256
   rw[LE,Gn]
   exact hlen
/-! Subsumption and meets as sets -/
theorem B3 {h:AP} {t:Int} (g0:0≤t) (g1:t<(h.1.length:Int)):BO h t∈h.1.map fun t=>t.2.1 :=
 List.mem_map.2 ⟨_,AE h.1 UX (k:=t.toNat) (by omega),rfl⟩
theorem SJ {a b:List Int} (ha:HW a) (hb:HW b):NW a b=true↔∀i,BK a i=true→BK b i=true:=by
 constructor
 ·intro h i hi
  by_cases hk:i / 64<a.length
  ·have h1:=List.all_eq_true.1 h (i / 64) (List.mem_range.2 hk)
   rw[beq_iff_eq,QQQ]at h1
   exact Pf (A4 ha _) (A4 hb _) h1 (Nat.mod_lt _ (by decide)) hi
  ·exfalso
   unfold BK at hi
   rw[Fq hk]at hi
   simp at hi
 ·intro h
  unfold NW
  rw[List.all_eq_true]
  intro k _
  rw[beq_iff_eq,QQQ]
  exact UT ha hb h k
theorem p8 {a b:List Int} (ha:HW a) (hb:HW b) (i:Nat):BK (FD a b) i=(BK a i&&BK b i):=by
 unfold FD
 rw[MD]
 unfold BK
 have:(Ft (WB a b) (min a.length b.length) (min a.length b.length)).getD (i / 64) 0=Bm .and .u64 (a.getD (i / 64) 0) (b.getD (i / 64) 0):=by
  by_cases h:i / 64<min a.length b.length
  ·unfold Ft
   rw[List.getD_eq_getElem?_getD,List.getElem?_map,List.getElem?_range h]
   show (if i / 64<min a.length b.length then WB a b (i / 64) else 0)=_
   rw[if_pos h]
   rfl
  ·rw[Fq (by rw[UY];exact h),Gk (A4 ha _) (A4 hb _)]
   by_cases h1:i / 64<a.length
   ·rw[Fq (b:=b) (by omega)]
    simp
   ·rw[Fq (b:=a) h1]
    simp
 rw[this,Gk (A4 ha _) (A4 hb _),Int.toNat_natCast,Nat.testBit_and]
theorem p9 {a b:List Int} (ha:HW a) (hb:HW b):HW (FD a b):=by
 refine ME fun x hx=>?_
 unfold Ft at hx
 obtain⟨j,-,rfl⟩:=List.mem_map.1 hx
 split
 ·unfold WB
  rw[Gk (A4 ha _) (A4 hb _)]
  have h1:=A4 ha j
  have h2:(a.getD j 0).toNat &&& (b.getD j 0).toNat≤(a.getD j 0).toNat:=Nat.and_le_left
  have h3:=h1.1
  have h4:=h1.2
  exact⟨Int.natCast_nonneg _,by omega⟩
 ·exact⟨by decide,by decide⟩
theorem SK (c:List Int):∀(l:List IP) (k:Nat),(EI c k l=-1∧∀t∈l,DQ t.2.1 c=false)∨((k:Int)≤EI c k l∧EI c k l<(k:Int)+l.length∧DQ (l.getD ((EI c k l).toNat-k) UX).2.1 c=true)
 | [],k=>.inl ⟨rfl,fun t ht=>by cases ht⟩
 | x :: l,k=>by
  simp only[EI]
  split
  ·rename_i h
   right
   refine⟨by omega,by simp only[List.length_cons];omega,?_⟩
   rw[show ((k:Int).toNat-k)=0 by omega]
   exact h
  ·rename_i h
   have h:DQ x.2.1 c=false:=by simpa using h
   rcases SK c l (k+1) with ⟨h1,h2⟩|⟨h1,h2,h3⟩
   ·left
    refine⟨h1,fun t ht=>?_⟩
    rcases List.mem_cons.1 ht with rfl|ht
    ·exact h
    ·exact h2 t ht
   ·right
    refine⟨by omega,by simp only[List.length_cons];omega,?_⟩
    rw[show ((EI c (k+1) l).toNat-k)=((EI c (k+1) l).toNat-(k+1))+1 by omega]
    exact h3
def hJ (h:AP) (t:Int) (i:Nat):Bool:=BK (BO h t) i
theorem Cu {h:AP} (hk:lE h) {a b:Int} (a0:0≤a) (a1:a<(h.1.length:Int)) (b0:0≤b) (b1:b<(h.1.length:Int)):HX h a b=true↔∀i,hJ h b i=true→hJ h a i=true :=
 SJ (hk.1.wds _ (B3 b0 b1)) (hk.1.wds _ (B3 a0 a1))
theorem qA {h:AP} (hk:lE h) {a b:Int} (a0:0≤a) (a1:a<(h.1.length:Int)) (b0:0≤b) (b1:b<(h.1.length:Int)) :
  ((DX h a b).2=true→0≤(DX h a b).1∧(DX h a b).1<(h.1.length:Int)∧∀i,hJ h (DX h a b).1 i=(hJ h a i&&hJ h b i))∧((∃i,hJ h a i=true∧hJ h b i=true)→(DX h a b).2=true):=by
 have wa:=hk.1.wds _ (B3 a0 a1)
 have wb:=hk.1.wds _ (B3 b0 b1)
 have hbit:=p8 wa wb
 have hwc:=p9 wa wb
 have heq:∀t∈h.1,DQ t.2.1 (FD (BO h a) (BO h b))=true↔∀i,BK t.2.1 i=BK (FD (BO h a) (BO h b)) i:=by
  intro t ht
  have wt:=hk.1.wds t.2.1 (List.mem_map.2 ⟨t,ht,rfl⟩)
  unfold DQ
  rw[Bool.and_eq_true,SJ wt hwc,SJ hwc wt]
  constructor
  ·rintro⟨e1,e2⟩ i
   rw[Bool.eq_iff_iff]
   exact⟨e1 i,e2 i⟩
  ·intro e
   exact⟨fun i hi=>by rw[←e i];exact hi,fun i hi=>by rw[e i];exact hi⟩
 unfold DX
 by_cases hz:(FD (BO h a) (BO h b)).length=0
 ·rw[if_pos hz]
  refine⟨fun e=>(by cases e),?_⟩
  rintro⟨i,i1,i2⟩
  exfalso
  have:=hbit i
  rw[List.eq_nil_of_length_eq_zero hz]at this
  unfold hJ at i1 i2
  rw[i1,i2]at this
  unfold BK at this
  simp at this
 ·rw[if_neg hz]
  rcases SK (FD (BO h a) (BO h b)) h.1 0 with ⟨h1,h2⟩|⟨h1,h2,h3⟩
  ·rw[if_pos (by omega)]
   refine⟨fun e=>(by cases e),fun hi=>?_⟩
   exfalso
   obtain⟨t,ht,e⟩:=hk.1.meet _ (B3 a0 a1) _ (B3 b0 b1) hi
   obtain⟨x,hx,rfl⟩:=List.mem_map.1 ht
   have:=(heq x hx).2 (fun i=>by rw[hbit i];exact e i)
   rw[h2 x hx]at this
   cases this
  ·have h1:0≤EI (FD (BO h a) (BO h b)) 0 h.1:=by omega
   rw[if_neg (by omega)]
   refine⟨fun _=>⟨h1,by simp only;omega,fun i=>?_⟩,fun _=>rfl⟩
   rw[Nat.sub_zero]at h3
   have hm:=AE h.1 UX (k:=(EI (FD (BO h a) (BO h b)) 0 h.1).toNat) (by omega)
   have:=(heq _ hm).1 h3 i
   rw[hbit i]at this
   exact this
theorem qB {h:AP} (hk:lE h) {a b:Int} (a0:0≤a) (a1:a<(h.1.length:Int)) (b0:0≤b) (b1:b<(h.1.length:Int)) :
  ((DX h a b).2=true→0≤(DX h a b).1∧(DX h a b).1<(h.1.length:Int)∧HX h a (DX h a b).1=true∧HX h b (DX h a b).1=true) ∧
  ∀x,0≤x→x<(h.1.length:Int)→HX h a x=true→HX h b x=true→(DX h a b).2=true∧HX h (DX h a b).1 x=true:=by
 obtain⟨m1,m2⟩:=qA hk a0 a1 b0 b1
 refine⟨fun e=>?_,fun x x0 x1 hax hbx=>?_⟩
 ·obtain⟨q0,q1,q2⟩:=m1 e
  refine⟨q0,q1,(Cu hk a0 a1 q0 q1).2 fun i hi=>?_,(Cu hk b0 b1 q0 q1).2 fun i hi=>?_⟩
  ·rw[q2 i,Bool.and_eq_true]at hi;exact hi.1
  ·rw[q2 i,Bool.and_eq_true]at hi;exact hi.2
 ·have ga:=(Cu hk a0 a1 x0 x1).1 hax
  have gb:=(Cu hk b0 b1 x0 x1).1 hbx
  obtain⟨i,hi⟩:=hk.1.some _ (B3 x0 x1)
  have e:=m2 ⟨i,ga i hi,gb i hi⟩
  obtain⟨q0,q1,q2⟩:=m1 e
  refine⟨e,(Cu hk q0 q1 x0 x1).2 fun j hj=>?_⟩
  rw[q2 j,Bool.and_eq_true]
  exact⟨ga j hj,gb j hj⟩
end
/- Functions of grammarlabref07. -/
section
abbrev A2j:=Int×List (Int×Int)
def F5 (f:List A2j):Bool:=decide (f.length≤12)&&f.all fun n=>decide (n.2.length≤12)
def SL:Ae:={ ins:=[HS],pre:=fun _=>True,out:=fun(f,_)=>[.p .bool (F5 f)] }
theorem qC:Ag Tryz.prog 30 SL:=by
 refine AR Tryz.func30 (by kernel_rfl) rfl Tryz.ntmps30 (by decide) (by kernel_rfl) (AF []) (fun f sp h=>by simp[lk]at h) ?_
 rintro w0 O0 ⟨l,u⟩ hc hok hpre
 simp only[SL,AN]
 repeat'(first|exact trivial|refine eS rfl ?_|refine AB ?_|refine rX [0,1,2,3,7,12,22] hc ?_ ?_|refine rC ?_ ?_<;>intro AA<;>try(cases AA;done))
 ·have h1:F5 l=false:=by
   have h:¬(List.length l≤12):=by exact eV
   unfold F5
   rw[decide_eq_false h];rfl
  exact AG hc [.tmp 2] rfl (.inl rfl) (by simp) (by rw[h1];first|exact eR|refine Al ?_)
 ·refine AK (ι:={k:Nat//k≤l.length∧(l.take k).all (fun n=>decide (n.2.length≤12))=true}) (fun k=>⟨[(0,.p HS l),(1,.bp 1 [] 0),(3,.p (.int .i64) (k.1:Int))],[(1,.box 24 true [.p MZ l])]⟩) (fun k=>l.length-k.1) ⟨0,by simp⟩ (AC [(1,.nm 1)] rfl rfl ?_ ?_) (fun k=>?_)
  ·first|exact eN|refine eM ?_
  ·first|exact eN|refine eM ?_
  ·obtain⟨k,hk,hall⟩:=k
   repeat'(first|exact trivial|refine eS rfl ?_|refine AB ?_|refine rX [0,1,2,3,7,12,22] hc ?_ ?_|refine rC ?_ ?_<;>intro AA<;>try(cases AA;done))
   ·exact eV
   ·have h1:F5 l=false:=by
     have hk:k<l.length:=by exact eV
     have h:=AE l (0,[]) hk
     unfold F5
     rw[Bool.and_eq_false_iff]
     right
     rw[List.all_eq_false]
     exact⟨_,h,by simp only[decide_eq_true_eq];exact eV⟩
    exact AG hc [.tmp 2] rfl (.inl rfl) (by simp) (by rw[h1];first|exact eR|refine Al ?_)
   ·exact eV
   ·have hk:k<l.length:=by exact eV
    refine⟨⟨k+1,by exact eV,?_⟩,by simp only;exact eV,AC [(1,.nm 1)] rfl rfl ?_ ?_⟩
    ·have h1:=Ab l (0,[]) hk
     have h2:((l.take (k+1)).all fun n=>decide (n.2.length≤12))=_:=congrArg (fun x=>List.all x fun n=>decide (n.2.length≤12)) h1
     rw[h2,List.all_append,hall]
     simp only[List.all_cons,List.all_nil,Bool.and_true,Bool.true_and,decide_eq_true_eq]
     exact eV
    ·first|exact eN|refine eM ?_
    ·first|exact eN|refine eM ?_
   ·have h1:F5 l=true:=by
     have hk:l.take k=l:=List.take_of_length_le (by exact eV)
     rw[hk]at hall
     unfold F5
     rw[hall,decide_eq_true (by exact eV)];rfl
    exact AG hc [.tmp 2] rfl (.inl rfl) (by simp) (by rw[h1];first|exact eR|refine Al ?_)
end
/- Functions of grammarlabref07: arcs. -/
section
def NY (n:Int) (seen:List (Int×Int)):List (Int×Int)→Int
 | []=>0
 | x :: r=>if x.1<0∨x.2<0∨n≤x.2 then 2 else if (seen.any fun y=>y.1==x.1)=true then 4 else NY n (seen++[x]) r
def IQ (l:List (Int×Int)) (n:Int):Int:=NY n [] l
def hU:Ae:={ ins:=[Vg,T3],pre:=fun _=>True,out:=fun(l,n,_)=>[.p XZ (IQ l n)] }
theorem SM (n:Int) (l:List (Int×Int)) {k:Nat} (h:k<l.length):NY n (l.take k) (l.drop k)=if (l.getD k (0,0)).1<0∨(l.getD k (0,0)).2<0∨n≤(l.getD k (0,0)).2 then 2 else if ((l.take k).any fun y=>y.1==(l.getD k (0,0)).1)=true then 4 else NY n (l.take (k+1)) (l.drop (k+1)):=by
 rw[Ab l (0,0) h,List.drop_eq_getElem_cons h,List.getD_eq_getElem?_getD,List.getElem?_eq_getElem h]
 rfl
theorem TM (l:List (Int×Int)) (f:Int) {k:Nat} (h:k<l.length):((l.take (k+1)).any fun y=>y.1==f)=((l.take k).any (fun y=>y.1==f)||((l.getD k (0,0)).1==f)):=by
 rw[Ab l (0,0) h,List.any_append];simp
theorem xK:Ag Tryz.prog 78 hU:=by
 refine AR Tryz.func78 (by kernel_rfl) rfl Tryz.ntmps78 (by decide) (by kernel_rfl) (AF []) (fun f sp h=>by simp[lk]at h) ?_
 rintro w0 O0 ⟨l,n,u⟩ hc ⟨⟨hl,-⟩,-⟩ -
 simp only[AO]at hl
 simp only[hU,AN]
 repeat'(first|exact trivial|refine eS rfl ?_|refine AB ?_|refine rX [0,1,4,5,6,10,35,38,51] hc ?_ ?_|refine rC ?_ ?_<;>intro AA<;>try(cases AA;done))
 refine AK (ι:={k:Nat//k≤l.length∧NY n (l.take k) (l.drop k)=IQ l n}) (fun k=>⟨[(0,.p Vg l),(1,.p T3 n),(5,.p (.int .i64) (k.1:Int))],[]⟩) (fun k=>l.length-k.1) ⟨0,by simp[IQ]⟩ (AC [] rfl rfl ?_ ?_) (fun k=>?_)
 ·first|exact eN|refine eM ?_
 ·first|exact eN|refine eM ?_
 ·obtain⟨k,hk,hall⟩:=k
  repeat'(first|exact trivial|refine eS rfl ?_|refine AB ?_|refine rX [0,1,4,5,6,10,35,38,51] hc ?_ ?_|refine rC ?_ ?_<;>intro AA<;>try(cases AA;done))
  ·exact eV
  ·have hk:k<l.length:=by exact eV
   have h1:IQ l n=2:=by
    rw[←hall,SM n l hk,if_pos (by rw[←or_assoc];exact AA)]
   exact AG hc [.tmp 4] rfl (.inl rfl) (by simp) (by rw[h1];first|exact eR|refine Al ?_)
  ·have hk:k<l.length:=by exact eV
   have hn:¬((l.getD k (0,0)).1<0∨(l.getD k (0,0)).2<0∨n≤(l.getD k (0,0)).2):=by
    have:=AA
    generalize l.getD k (0,0)=x at this
    exact eV
   rw[SM n l hk,if_neg hn]at hall
   refine AK (ι:={j:Nat//j≤k∧((l.take j).any fun y=>y.1==(l.getD k (0,0)).1)=false}) (fun j=>⟨[(0,.p Vg l),(1,.p T3 n),(5,.p (.int .i64) (k:Int)),(6,.p (.int .i64) (j.1:Int))],[]⟩) (fun j=>k-j.1) ⟨0,by simp⟩ (AC [] rfl rfl ?_ ?_) (fun j=>?_)
   ·first|exact eN|refine eM ?_
   ·first|exact eN|refine eM ?_
   ·obtain⟨j,hj,hany⟩:=j
    repeat'(first|exact trivial|refine eS rfl ?_|refine AB ?_|refine rX [0,1,4,5,6,10,35,38,51] hc ?_ ?_|refine rC ?_ ?_<;>intro AA<;>try(cases AA;done))
    ·exact eV
    ·have hjl:j<l.length:=by exact eV
     have h1:IQ l n=4:=by
      have h2:((l.take k).any fun y=>y.1==(l.getD k (0,0)).1)=true:=by
       rw[List.any_eq_true]
       refine⟨l.getD j (0,0),?_,by simpa using AA⟩
       rw[List.getD_eq_getElem?_getD,List.getElem?_eq_getElem hjl]
       exact List.mem_take_iff_getElem.2 ⟨j,by exact eV,rfl⟩
      rw[←hall,if_pos h2]
     exact AG hc [.tmp 4] rfl (.inl rfl) (by simp) (by rw[h1];first|exact eR|refine Al ?_)
    ·exact eV
    ·have hjl:j<l.length:=by exact eV
     refine⟨⟨j+1,by exact eV,?_⟩,by simp only;exact eV,AC [] rfl rfl ?_ ?_⟩
     ·have h2:=TM l (l.getD k (0,0)).1 hjl
      refine h2.trans ?_
      rw[hany]
      simpa using AA
     ·first|exact eN|refine eM ?_
     ·first|exact eN|refine eM ?_
    ·exact eV
    ·have hjk:j=k:=by exact eV
     subst hjk
     refine⟨⟨j+1,by exact eV,?_⟩,by simp only;exact eV,AC [] rfl rfl ?_ ?_⟩
     ·rw[←hall,if_neg (by rw[hany];simp)]
     ·first|exact eN|refine eM ?_
     ·first|exact eN|refine eM ?_
  ·have h1:IQ l n=0:=by
    have hk:l.length≤k:=by exact eV
    rw[←hall,List.drop_eq_nil_of_le hk];rfl
   exact AG hc [.tmp 4] rfl (.inl rfl) (by simp) (by rw[h1];first|exact eR|refine Al ?_)
end
/- Functions of grammarlabref07: numbers. -/
section
def SN (n:Int×List (Int×Int)):List Int:=n.1 :: (n.2.length:Int) :: n.2.flatMap fun a=>[a.1,a.2]
def Bd (f:List (Int×List (Int×Int))):List Int:=(f.length:Int) :: f.flatMap SN
def TN (l:List (Int×List (Int×Int))) (k:Nat):List Int:=(l.length:Int) :: (l.take k).flatMap SN
def SP (l:List (Int×List (Int×Int))) (k j:Nat):List Int:=TN l k++[(l.getD k (0,[])).1,((l.getD k (0,[])).2.length:Int)]++((l.getD k (0,[])).2.take j).flatMap fun a=>[a.1,a.2]
theorem Oe:∀l:List (Int×Int),(l.flatMap fun a=>[a.1,a.2]).length=2*l.length
 | []=>rfl
 | x :: l=>by simp[Oe l];omega
theorem qD (n:Int×List (Int×Int)):(SN n).length=2+2*n.2.length:=by
 have:=Oe n.2
 simp only[SN,List.length_cons];omega
theorem SQ:∀l:List (Int×List (Int×Int)),(∀n∈l,n.2.length≤100000)→(l.flatMap SN).length≤l.length*200002
 | [],_=>by simp
 | x :: l,h=>by
  have h1:=h x (by simp)
  have h2:=SQ l (fun n hn=>h n (by simp[hn]))
  have h3:=qD x
  simp only[List.flatMap_cons,List.length_append,List.length_cons]
  omega
theorem YI {l:List (Int×List (Int×Int))} (h:∀n∈l,n.2.length≤100000) {k:Nat} (hk:k≤l.length):(TN l k).length≤1+k*200002:=by
 have h1:=SQ (l.take k) (fun n hn=>h n (List.mem_of_mem_take hn))
 rw[List.length_take,Nat.min_eq_left hk]at h1
 simp only[TN,List.length_cons]
 omega
theorem qE {l:List (Int×List (Int×Int))} (h:∀n∈l,n.2.length≤100000) {k j:Nat} (hk:k<l.length) (hj:j≤(l.getD k (0,[])).2.length):(SP l k j).length≤3+k*200002+2*j:=by
 have h1:=YI h (Nat.le_of_lt hk)
 have h2:=Oe ((l.getD k (0,[])).2.take j)
 rw[List.length_take,Nat.min_eq_left hj]at h2
 simp only[SP,List.length_append,List.length_cons,List.length_nil]
 omega
theorem Ua {l:List (Int×List (Int×Int))} {k:Nat} (hk:k<l.length):TN l (k+1)=SP l k (l.getD k (0,[])).2.length:=by
 unfold TN SP
 rw[Ab l (0,[]) hk,List.flatMap_append,List.take_length]
 simp[SN,TN]
theorem Ub {l:List (Int×List (Int×Int))} {k j:Nat} (hj:j<(l.getD k (0,[])).2.length):SP l k (j+1)=SP l k j++[((l.getD k (0,[])).2.getD j (0,0)).1,((l.getD k (0,[])).2.getD j (0,0)).2]:=by
 unfold SP
 rw[Ab _ (0,0) hj,List.flatMap_append]
 simp
def NZ:Ae:={ ins:=[HS],pre:=fun(f,_)=>f.length≤100000∧∀n∈f,n.2.length≤100000,out:=fun(f,_)=>[.p Bz (Bd f)] }
theorem Z8:Ag Tryz.prog 81 NZ:=by
 refine AR Tryz.func81 (by kernel_rfl) rfl Tryz.ntmps81 (by decide) (by kernel_rfl) (AF []) AH ?_
 rintro w0 O0 ⟨l,u⟩ hc ⟨hl,-⟩ ⟨hp1,hp2⟩
 simp only[NZ,AN]
 repeat'(first|exact trivial|refine eS rfl ?_|refine AB ?_|refine rX [0,1,2,3,4,5,6,15,38] hc ?_ ?_|refine rC ?_ ?_<;>intro AA<;>try(cases AA;done))
 refine AK (ι:={k:Nat//k≤l.length}) (fun k=>⟨[(0,.p HS l),(1,.bp 1 [] 0),(3,.sr 10 T3 0 (TN l k.1).length),(4,.p (.int .i64) (k.1:Int))],[(1,.box 24 true [.p MZ l]),(10,.arr 3 T3 (TN l k.1))]⟩) (fun k=>l.length-k.1) ⟨0,by simp⟩ (AC [(1,.nm 1),(10,.nm 10)] rfl rfl ?_ ?_) (fun k=>?_)
 ·first|exact eN|refine eM ?_
  rfl
 ·first|exact eN|refine eM ?_
  rfl
 ·obtain⟨k,hk⟩:=k
  have hn1:=YI hp2 hk
  repeat'(first|exact trivial|refine eS rfl ?_|refine AB ?_|refine rX [0,1,2,3,4,5,6,15,38] hc ?_ ?_|refine rC ?_ ?_<;>intro AA<;>try(cases AA;done))
  ·exact eV
  ·refine⟨by exact eV,?_⟩
   simp only[AO];exact eV
  ·have hkl:k<l.length:=by exact eV
   have hp3:=hp2 _ (AE l (0,[]) hkl)
   refine AK (ι:={j:Nat//j≤(l.getD k (0,[])).2.length}) (fun j=>⟨[(0,.p HS l),(1,.bp 1 [] 0),(3,.sr 10 T3 0 (SP l k j.1).length),(4,.p (.int .i64) (k:Int)),(5,.p Vg (l.getD k (0,[])).2),(6,.p (.int .i64) (j.1:Int))],[(1,.box 24 true [.p MZ l]),(10,.arr 3 T3 (SP l k j.1))]⟩) (fun j=>(l.getD k (0,[])).2.length-j.1) ⟨0,by simp⟩ (AC [(1,.nm 1),(10,.nm 10)] rfl rfl ?_ ?_) (fun j=>?_)
   ·first|exact eN|refine eM ?_
    simp[SP]
   ·first|exact eN|refine eM ?_
    simp[SP]
   ·obtain⟨j,hj⟩:=j
    have hn2:=qE hp2 hkl hj
    repeat'(first|exact trivial|refine eS rfl ?_|refine AB ?_|refine rX [0,1,2,3,4,5,6,15,38] hc ?_ ?_|refine rC ?_ ?_<;>intro AA<;>try(cases AA;done))
    ·refine⟨by exact eV,by exact eV,?_⟩
     simp only[AO];exact eV
    ·exact eV
    ·have hjl:j<(l.getD k (0,[])).2.length:=by exact eV
     refine⟨⟨j+1,by exact eV⟩,by simp only;exact eV,AC [(1,.nm 1),(10,.nm 10)] rfl rfl ?_ ?_⟩
     ·first|exact eN|refine eM ?_
      exact(Ub hjl).symm
     ·first|exact eN|refine eM ?_
      have:=congrArg List.length (Ub (l:=l) hjl)
      rw[List.length_append]at this
      exact this.symm
    ·exact eV
    ·have hjk:j=(l.getD k (0,[])).2.length:=by exact eV
     subst hjk
     refine⟨⟨k+1,by exact eV⟩,by simp only;exact eV,AC [(1,.nm 1),(10,.nm 10)] rfl rfl ?_ ?_⟩
     ·first|exact eN|refine eM ?_
      exact(Ua hkl).symm
     ·first|exact eN|refine eM ?_
      exact congrArg List.length (Ua hkl).symm
  ·have hk:l.take k=l:=List.take_of_length_le (by exact eV)
   have h1:TN l k=Bd l:=by unfold TN Bd;rw[hk]
   exact AG hc [.tmp 2] rfl (.inl rfl) (by simp) (by first|exact eR|refine Al ?_;exact h1)
end
/- Functions of grammarlabref07: Compare, Equal. -/
section
attribute [local go_sem] NZ
def I5:List Int→List Int→Int
 | x :: xs,y :: ys=>if x<y then -1 else if y<x then 1 else I5 xs ys
 | _,_=>0
theorem Og (xs ys:List Int) {k:Nat} (h1:k<xs.length) (h2:k<ys.length):I5 (xs.drop k) (ys.drop k)=if xs.getD k 0<ys.getD k 0 then -1 else if ys.getD k 0<xs.getD k 0 then 1 else I5 (xs.drop (k+1)) (ys.drop (k+1)):=by
 rw[List.drop_eq_getElem_cons h1,List.drop_eq_getElem_cons h2,List.getD_eq_getElem?_getD,List.getElem?_eq_getElem h1,List.getD_eq_getElem?_getD,List.getElem?_eq_getElem h2]
 rfl
theorem qF (xs ys:List Int) {k:Nat} (h:xs.length≤k∨ys.length≤k):I5 (xs.drop k) (ys.drop k)=0:=by
 rcases h with h|h
 ·rw[List.drop_eq_nil_of_le h];simp[I5]
 ·rw[List.drop_eq_nil_of_le h];simp[I5]
def Cf (a b:List (Int×List (Int×Int))):Int:=I5 (Bd a) (Bd b)
def Gq (f:List (Int×List (Int×Int))):Prop:=f.length≤100000∧∀n∈f,n.2.length≤100000
def Na:Ae:={ ins:=[HS,HS],pre:=fun(a,b,_)=>Gq a∧Gq b,out:=fun(a,b,_)=>[.p T3 (Cf a b)] }
theorem Nb {f:List (Int×List (Int×Int))} (h:Gq f):(Bd f).length≤1+f.length*200002:=by
 have:=SQ f h.2
 simp only[Bd,List.length_cons];omega
theorem Z9:Ag Tryz.prog 55 Na:=by
 refine AR Tryz.func55 (by kernel_rfl) rfl Tryz.ntmps55 (by decide) (by kernel_rfl) (AF [(81,NZ)]) (AD Z8 AH) ?_
 rintro w0 O0 ⟨a,b,u⟩ hc-⟨⟨ha1,ha2⟩,⟨hb1,hb2⟩⟩
 have hla:=Nb ⟨ha1,ha2⟩
 have hlb:=Nb ⟨hb1,hb2⟩
 simp only[Na,AN]
 repeat'(first|exact trivial|refine eS rfl ?_|refine AB ?_|refine rX [0,1,2,3,4,5,6,7,21,32,41] hc ?_ ?_|refine rC ?_ ?_<;>intro AA<;>try(cases AA;done))
 ·exact⟨ha1,ha2⟩
 ·exact⟨hb1,hb2⟩
 ·refine AK (ι:={k:Nat//I5 ((Bd a).drop k) ((Bd b).drop k)=Cf a b}) (fun k=>⟨[(5,.p Bz (Bd a)),(6,.p Bz (Bd b)),(7,.p (.int .i64) (k.1:Int))],[]⟩) (fun k=>(Bd a).length-k.1) ⟨0,by simp[Cf]⟩ (AC [] rfl rfl ?_ ?_) (fun k=>?_)
  ·first|exact eN|refine eM ?_
  ·first|exact eN|refine eM ?_
  ·obtain⟨k,hk⟩:=k
   repeat'(first|exact trivial|refine eS rfl ?_|refine AB ?_|refine rX [0,1,2,3,4,5,6,7,21,32,41] hc ?_ ?_|refine rC ?_ ?_<;>intro AA<;>try(cases AA;done))
   ·exact eV
   ·obtain⟨h1,h2⟩:k<(Bd a).length∧k<(Bd b).length:=by exact eV
    have h3:Cf a b=-1:=by rw[←hk,Og _ _ h1 h2,if_pos AA]
    exact AG hc [.tmp 4] rfl (.inl rfl) (by simp) (by rw[h3];first|exact eR|refine Al ?_)
   ·exact eV
   ·obtain⟨h1,h2⟩:k<(Bd a).length∧k<(Bd b).length:=by exact eV
    have h3:Cf a b=1:=by rw[←hk,Og _ _ h1 h2,if_neg (by exact eV),if_pos AA]
    exact AG hc [.tmp 4] rfl (.inl rfl) (by simp) (by rw[h3];first|exact eR|refine Al ?_)
   ·exact eV
   ·obtain⟨h1,h2⟩:k<(Bd a).length∧k<(Bd b).length:=by exact eV
    refine⟨⟨k+1,?_⟩,by simp only;exact eV,AC [] rfl rfl ?_ ?_⟩
    ·rw[←hk,Og _ _ h1 h2,if_neg (by exact eV),if_neg (by exact eV)]
    ·first|exact eN|refine eM ?_
    ·first|exact eN|refine eM ?_
   ·have h3:Cf a b=0:=by
     rw[←hk]
     apply qF
     by_cases h:k<(Bd a).length
     ·right;have:=AA (by exact eV);exact eV
     ·left;exact eV
    exact AG hc [.tmp 4] rfl (.inl rfl) (by simp) (by rw[h3];first|exact eR|refine Al ?_)
def Oh:Ae:={ ins:=[HS,HS],pre:=fun(a,b,_)=>Gq a∧Gq b,out:=fun(a,b,_)=>[.p .bool (Cf a b==0)] }
end
/- Functions of grammarlabref07: Equal, form. -/
section
attribute [local go_sem] Na hU
theorem qG:Ag Tryz.prog 32 Oh:=by
 refine AR Tryz.func32 (by kernel_rfl) rfl Tryz.ntmps32 (by decide) (by kernel_rfl) (AF [(55,Na)]) (AD Z9 AH) ?_
 rintro w0 O0 ⟨a,b,u⟩ hc-hpre
 simp only[Oh,AN]
 repeat'(first|exact trivial|refine eS rfl ?_|refine AB ?_|refine rX [0,1,2,3,4] hc ?_ ?_|refine rC ?_ ?_<;>intro AA<;>try(cases AA;done))
 ·exact hpre
 ·exact AG hc [.tmp 4] rfl (.inl rfl) (by simp) (by first|exact eR|refine Al ?_)
def JR (m:Int):List (Int×List (Int×Int))→Int
 | []=>0
 | n :: r=>if n.1<0 then 2 else if IQ n.2 m≠0 then IQ n.2 m else JR m r
def Dz (f:List (Int×List (Int×Int))):Int:=if f.length=0 then 1 else if 4096<f.length then 7 else JR f.length f
def hZ:Ae:={ ins:=[HS],pre:=fun _=>True,out:=fun(f,_)=>[.p XZ (Dz f)] }
theorem MN (m:Int) (l:List (Int×List (Int×Int))) {k:Nat} (h:k<l.length):JR m (l.drop k)=if (l.getD k (0,[])).1<0 then 2 else if IQ (l.getD k (0,[])).2 m≠0 then IQ (l.getD k (0,[])).2 m else JR m (l.drop (k+1)):=by
 rw[List.drop_eq_getElem_cons h,List.getD_eq_getElem?_getD,List.getElem?_eq_getElem h]
 rfl
theorem xL:Ag Tryz.prog 53 hZ:=by
 refine AR Tryz.func53 (by kernel_rfl) rfl Tryz.ntmps53 (by decide) (by kernel_rfl) (AF [(78,hU)]) (AD xK AH) ?_
 rintro w0 O0 ⟨l,u⟩ hc ⟨hl,-⟩ -
 simp only[hZ,AN]
 repeat'(first|exact trivial|refine eS rfl ?_|refine AB ?_|refine rX [0,1,2,3,4,8,12,17,26,38] hc ?_ ?_|refine rC ?_ ?_<;>intro AA<;>try(cases AA;done))
 ·have h1:Dz l=1:=by
   have h:l.length=0:=by exact eV
   unfold Dz
   rw[if_pos h]
  exact AG hc [.tmp 2] rfl (.inl rfl) (by simp) (by rw[h1];first|exact eR|refine Al ?_)
 ·have h1:Dz l=7:=by
   have h:¬l.length=0:=by exact eV
   have h':4096<l.length:=by exact eV
   unfold Dz
   rw[if_neg h,if_pos h']
  exact AG hc [.tmp 2] rfl (.inl rfl) (by simp) (by rw[h1];first|exact eR|refine Al ?_)
 ·have h1:Dz l=JR l.length l:=by
   have h:¬l.length=0:=by exact eV
   have h':¬4096<l.length:=by exact eV
   unfold Dz
   rw[if_neg h,if_neg h']
  refine AK (ι:={k:Nat//k≤l.length∧JR l.length (l.drop k)=Dz l}) (fun k=>⟨[(1,.bp 1 [] 0),(3,.p (.int .i64) (k.1:Int))],[(1,.box 24 true [.p MZ l])]⟩) (fun k=>l.length-k.1) ⟨0,by simp[h1]⟩ (AC [(1,.nm 1)] rfl rfl ?_ ?_) (fun k=>?_)
  ·first|exact eN|refine eM ?_
  ·first|exact eN|refine eM ?_
  ·obtain⟨k,hk,hf⟩:=k
   repeat'(first|exact trivial|refine eS rfl ?_|refine AB ?_|refine rX [0,1,2,3,4,8,12,17,26,38] hc ?_ ?_|refine rC ?_ ?_<;>intro AA<;>try(cases AA;done))
   ·exact eV
   ·have hkl:k<l.length:=by exact eV
    have h2:Dz l=2:=by rw[←hf,MN _ _ hkl,if_pos AA]
    exact AG hc [.tmp 2] rfl (.inl rfl) (by simp) (by rw[h2];first|exact eR|refine Al ?_)
   ·exact eV
   ·have hkl:k<l.length:=by exact eV
    have h2:Dz l=IQ (l.getD k (0,[])).2 l.length:=by rw[←hf,MN _ _ hkl,if_neg (by exact eV),if_pos AA]
    exact AG hc [.tmp 2] rfl (.inl rfl) (by simp) (by rw[h2];first|exact eR|refine Al ?_)
   ·exact eV
   ·have hkl:k<l.length:=by exact eV
    refine⟨⟨k+1,by exact eV,?_⟩,by simp only;exact eV,AC [(1,.nm 1)] rfl rfl ?_ ?_⟩
    ·rw[←hf,MN _ _ hkl,if_neg (by exact eV),if_neg (by simpa using AA)]
    ·first|exact eN|refine eM ?_
    ·first|exact eN|refine eM ?_
   ·have h2:Dz l=0:=by
     have hk:l.length≤k:=by exact eV
     rw[←hf,List.drop_eq_nil_of_le hk];rfl
    exact AG hc [.tmp 2] rfl (.inl rfl) (by simp) (by rw[h2];first|exact eR|refine Al ?_)
end
/- The contract of functions of the program: Sorted. -/
section
def JY (x:Int×Int) (s:List (Int×Int)):Nat→Nat
 | 0=>0
 | n+1=>if x.1<(s.getD n (0,0)).1 then JY x s n else n+1
def Oi (s:List (Int×Int)) (x:Int×Int):List (Int×Int):=s.take (JY x s s.length)++[x]++s.drop (JY x s s.length)
def Av (l:List (Int×Int)):List (Int×Int):=l.foldl Oi []
theorem WC (x:Int×Int) (s:List (Int×Int)):∀n,JY x s n≤n
 | 0=>Nat.le_refl _
 | n+1=>by
  unfold JY
  have:=WC x s n
  split<;>omega
theorem qH (s:List (Int×Int)) (x:Int×Int):(Oi s x).length=s.length+1:=by
 have:=WC x s s.length
 simp[Oi];omega
theorem I6 (l:List (Int×Int)) (x:Int×Int):Av (l++[x])=Oi (Av l) x:=by simp[Av]
theorem KN:∀(l s:List (Int×Int)),(l.foldl Oi s).length=s.length+l.length
 | [],s=>by simp
 | x :: l,s=>by simp[KN l,qH];omega
theorem HY (l:List (Int×Int)):(Av l).length=l.length:=by simp[Av,KN]
def I7:Ae:={ ins:=[Vg],pre:=fun(l,_)=>l.length≤1000000,out:=fun(l,_)=>[.own 63 sX (Av l)] }
theorem Uc:Ag Tryz.prog 80 I7:=by
 refine AR Tryz.func80 (by kernel_rfl) rfl Tryz.ntmps80 (by decide) (by kernel_rfl) (AF []) AH ?_
 rintro w0 O0 ⟨l,u⟩ hc hok hpre
 simp only[I7]at hpre
 simp only[I7,AN]
 repeat'(first|exact trivial|refine eS rfl ?_|refine AB ?_|refine rX [0,2,3,4,5,6,10,30] hc ?_ ?_|refine rC ?_ ?_<;>intro AA<;>try(cases AA;done))
 refine AK (ι:={p:Nat//p≤l.length}) (fun k=>⟨[(0,.p Vg l),(3,.sr 10 sX 0 (Av (l.take k.1)).length),(4,.p (.int .i64) (k.1:Int))],[(10,.arr 63 sX (Av (l.take k.1)))]⟩) (fun k=>l.length-k.1) ⟨0,by omega⟩ (AC [(10,.nil)] rfl rfl ?_ ?_) (fun k=>?_)
 ·first|exact eN|refine eM ?_
  rfl
 ·first|exact eN|refine eM ?_
  rfl
 ·obtain⟨k,hI⟩:=k
  have hlen:(Av (l.take k)).length=k:=by rw[HY,List.length_take];exact Nat.min_eq_left hI
  repeat'(first|exact trivial|refine eS rfl ?_|refine AB ?_|refine rX [0,2,3,4,5,6,10,30] hc ?_ ?_|refine rC ?_ ?_<;>intro AA<;>try(cases AA;done))
  ·refine AK (ι:={q:Nat//q≤(Av (l.take k)).length∧JY (l.getD k (0,0)) (Av (l.take k)) q=JY (l.getD k (0,0)) (Av (l.take k)) (Av (l.take k)).length}) (fun q=>⟨[(0,.p Vg l),(3,.sr 10 sX 0 (Av (l.take k)).length),(4,.p (.int .i64) (k:Int)),(5,.p (.int .i64) (q.1:Int))],[(10,.arr 63 sX (Av (l.take k)))]⟩) (fun q=>q.1) ⟨(Av (l.take k)).length,by simp⟩ (AC [(10,.nm 10)] rfl rfl ?_ ?_) (fun q=>?_)
   ·first|exact eN|refine eM ?_
   ·first|exact eN|refine eM ?_
   ·obtain⟨q,hq,hp⟩:=q
    have hkl:k<l.length:=by omega
    have e1:=l.length_take_le k
    have e2:(List.take q (Av (List.take k l))).length=q:=by rw[List.length_take];exact Nat.min_eq_left hq
    repeat'(first|exact trivial|refine eS rfl ?_|refine AB ?_|refine rX [0,2,3,4,5,6,10,30] hc ?_ ?_|refine rC ?_ ?_<;>intro AA<;>try(cases AA;done))
    ·exact eV
    ·exact eV
    ·obtain⟨h1,h2⟩:=AA
     obtain⟨q,rfl⟩:∃r,q=r+1:=⟨q-1,by omega⟩
     have h3:((q+1:Nat):Int)-1=(q:Int):=by omega
     refine⟨⟨q,by omega,?_⟩,Nat.lt_succ_self q,AC [(10,.nm 10)] rfl rfl ?_ ?_⟩
     ·rw[←hp]
      simp only[JY]
      rw[h3,Int.toNat_natCast]at h2
      rw[if_pos h2]
     ·first|exact eN|refine eM ?_
     ·first|exact eN|refine eM ?_
      show (q:Int)+1-1=q
      omega
    ·refine⟨by exact eV,?_⟩
     rw[e2];unfold AO;omega
    ·refine⟨by exact eV,?_⟩
     rw[e2];simp only[AO];omega
    ·refine⟨by exact eV,?_⟩
     rw[e2];simp only[AO,List.length_drop];omega
    ·exact eV
    ·have hpos:JY (l.getD k (0,0)) (Av (l.take k)) q=q:=by
      cases q with
      | zero=>rfl
      | succ q =>
       have h3:((q+1:Nat):Int)-1=(q:Int):=by omega
       have:=AA (by omega)
       rw[h3,Int.toNat_natCast]at this
       simp only[JY]
       rw[if_neg (by omega)]
     have h1:=Ab l (0,0) hkl
     have h2:Av (l.take (k+1))=_:=(congrArg Av h1).trans (I6 _ _)
     unfold Oi at h2
     rw[←hp,hpos]at h2
     refine⟨⟨k+1,by exact eV⟩,by simp only;exact eV,AC [(10,.nm 37)] rfl rfl ?_ ?_⟩
     ·first|exact eN|refine eM ?_
      exact h2.symm
     ·first|exact eN|refine eM ?_
      have h4:=congrArg List.length h2
      rw[List.length_append,List.length_append]at h4
      exact h4.symm
  ·have hk:l.take k=l:=List.take_of_length_le (by exact eV)
   refine Lv hc (.inl rfl) (rv:=.tmp 2) rfl ?_
   simp only[JL,Gy,GT,go_sem,Nat.reduceEqDiff,reduceCtorEq,Nat.reduceAdd,Nat.reduceSub,Nat.reduceMul,Nat.reduceLeDiff,Nat.reduceLT,Int.reduceLE,Int.reduceToNat,Int.reduceNeg,↓reduceIte]
   rw[hk]
   first|rfl|exact⟨rfl,rfl⟩|exact⟨rfl,rfl,rfl⟩
end
/- Functions of grammarlabref07: visit. -/
section
attribute [local go_sem] I7
abbrev AL:=Int×List (Int×Int)
def D0 (f:List AL):Nat→List Int×List Int→Int→List Int×List Int
 | 0,s,_=>s
 | k+1,s,n=>(Av (f.getD n.toNat (0,[])).2).foldl (fun s a=>if s.1.getD a.2.toNat 0<0 then D0 f k s a.2 else s) (s.1.set n.toNat (s.2.length:Int),s.2++[n])
def JZ (l:List Int):Nat:=l.countP (fun x=>decide (x<0))
def BA (f:List AL):Prop:=f.length≤100000∧∀x∈f,x.2.length≤100000∧∀a∈x.2,0≤a.2∧a.2<(f.length:Int)
def QI (f:List AL) (s:List Int×List Int):Prop:=s.1.length=f.length∧s.2.length+JZ s.1≤f.length
theorem qI {l:List Int} {n:Nat} {v:Int} (hn:n<l.length) (hneg:l.getD n 0<0) (hv:0≤v):JZ (l.set n v)+1=JZ l:=by
 induction l generalizing n with
 | nil=>simp at hn
 | cons x r ih =>
  cases n with
  | zero =>
   have hx:x<0:=by simpa using hneg
   have:¬v<0:=by omega
   simp[JZ,List.countP_cons,hx,this]
  | succ n =>
   have h1:=ih (n:=n) (by simpa using hn) (by simpa using hneg)
   simp only[JZ,List.set_cons_succ,List.countP_cons]at h1 ⊢
   omega
theorem aA {f:List AL} {s:List Int×List Int} {n:Int} (h:QI f s) (hn0:0≤n) (hn:n<f.length) (hneg:s.1.getD n.toNat 0<0) :
  QI f (s.1.set n.toNat (s.2.length:Int),s.2++[n])∧JZ (s.1.set n.toNat (s.2.length:Int))+1=JZ s.1:=by
 obtain⟨h1,h2⟩:=h
 have h3:=qI (l:=s.1) (n:=n.toNat) (v:=(s.2.length:Int)) (by omega) hneg (by omega)
 refine⟨⟨by simpa using h1,?_⟩,h3⟩
 simp only[List.length_append,List.length_singleton]
 omega
theorem lF (s:List (Int×Int)) (x:Int×Int):(Oi s x).Perm (x :: s):=by
 unfold Oi
 refine(List.perm_append_comm.append_right _).trans ?_
 simp
theorem JS:∀(l s:List (Int×Int)),(l.foldl Oi s).Perm (l++s)
 | [],s=>List.Perm.refl _
 | x :: l,s=>by
  refine(JS l (Oi s x)).trans ?_
  refine(List.Perm.append_left l (lF s x)).trans ?_
  exact List.perm_middle
theorem Nc (l:List (Int×Int)):(Av l).Perm l:=by
 have:=JS l []
 simpa[Av] using this
theorem Gr {f:List AL} (hf:BA f) (n:Int):List.length (f.getD n.toNat (0,[])).2≤100000:=by
 by_cases h:n.toNat<f.length
 ·have hm:f.getD n.toNat (0,[])∈f:=by
   rw[List.getD_eq_getElem?_getD,List.getElem?_eq_getElem h];exact List.getElem_mem h
  exact(hf.2 _ hm).1
 ·rw[List.getD_eq_getElem?_getD,List.getElem?_eq_none (by omega)]
  simp
theorem Qd {f:List AL} (hf:BA f) {n:Int} {a:Int×Int} (ha:a∈Av (f.getD n.toNat (0,[])).2):0≤a.2∧a.2<f.length:=by
 have ha:=(Nc _).mem_iff.1 ha
 by_cases h:n.toNat<f.length
 ·have hm:f.getD n.toNat (0,[])∈f:=by
   rw[List.getD_eq_getElem?_getD,List.getElem?_eq_getElem h];exact List.getElem_mem h
  exact(hf.2 _ hm).2 a ha
 ·rw[List.getD_eq_getElem?_getD,List.getElem?_eq_none (by omega)]at ha
  simp at ha
def D5 (f:List AL) (k:Nat) (s:List Int×List Int) (a:Int×Int):List Int×List Int:=if s.1.getD a.2.toNat 0<0 then D0 f k s a.2 else s
theorem HZ (f:List AL) (k:Nat) (s:List Int×List Int) (n:Int):D0 f (k+1) s n=(Av (f.getD n.toNat (0,[])).2).foldl (D5 f k) (s.1.set n.toNat (s.2.length:Int),s.2++[n]):=rfl
theorem Qf {f:List AL} {k:Nat} (hv:∀(s:List Int×List Int) (n:Int),QI f s→0≤n→n<f.length→s.1.getD n.toNat 0<0→QI f (D0 f k s n)∧JZ (D0 f k s n).1≤JZ s.1) :
  ∀(l:List (Int×Int)) (t:List Int×List Int),(∀a∈l,0≤a.2∧a.2<(f.length:Int))→QI f t→QI f (l.foldl (D5 f k) t)∧JZ (l.foldl (D5 f k) t).1≤JZ t.1
 | [],t,_,ht=>⟨ht,Nat.le_refl _⟩
 | a :: l,t,hl,ht=>by
  simp only[List.foldl_cons]
  by_cases hc:t.1.getD a.2.toNat 0<0
  ·obtain⟨g1,g2⟩:=hv t a.2 ht (hl a (by simp)).1 (hl a (by simp)).2 hc
   have e:D5 f k t a=D0 f k t a.2:=if_pos hc
   rw[e]
   obtain⟨g3,g4⟩:=Qf hv l _ (fun b hb=>hl b (by simp[hb])) g1
   exact⟨g3,Nat.le_trans g4 g2⟩
  ·have e:D5 f k t a=t:=if_neg hc
   rw[e]
   exact Qf hv l t (fun b hb=>hl b (by simp[hb])) ht
theorem Oj {f:List AL} (hf:BA f):∀(k:Nat) (s:List Int×List Int) (n:Int),QI f s→0≤n→n<f.length→s.1.getD n.toNat 0<0→QI f (D0 f k s n)∧JZ (D0 f k s n).1≤JZ s.1
 | 0,s,n,h,_,_,_=>⟨h,Nat.le_refl _⟩
 | k+1,s,n,h,h0,h1,h2=>by
  obtain⟨h3,h4⟩:=aA h h0 h1 h2
  obtain⟨g1,g2⟩:=Qf (Oj hf k) _ _ (fun a ha=>Qd hf ha) h3
  rw[HZ]
  exact⟨g1,by simp only at g2 h4;omega⟩
theorem Ol {α β:Type} (g:β→α→β) (l:List α) (d:α) (t:β) {i:Nat} (hi:i<l.length):(l.take (i+1)).foldl g t=g ((l.take i).foldl g t) (l.getD i d):=by
 rw[Ab l d hi,List.foldl_append];rfl
def JT (f:List AL) (s:List Int×List Int):List (Nat×Obj):=[(1,.box 140 true [.p HS f,.sr 2 T3 0 s.1.length,.sr 3 T3 0 s.2.length]),(2,.arr 3 T3 s.1),(3,.arr 3 T3 s.2)]
theorem qJ (f:List AL) (hf:BA f):∀(k:Nat) (s:List Int×List Int) (n:Int),QI f s→0≤n→n<f.length→s.1.getD n.toNat 0<0→JZ s.1≤k →
  B9 Tryz.prog 79 [.bp 1 [] 0,.p T3 n] (JT f s) [1] (fun res objs'=>res=.raw (.tuple #[])∧objs'=JT f (D0 f k s n)):=by
 intro k
 induction k with
 | zero =>
  intro s n h0 h1 h2 h3 h4
  obtain⟨_,h5⟩:=aA h0 h1 h2 h3
  omega
 | succ k ih =>
  intro s n htr hn0 hn1 hneg hk
  obtain⟨num,ord⟩:=s
  obtain⟨htr',hcnt⟩:=aA htr hn0 hn1 hneg
  obtain⟨hl1,hl2⟩:=htr
  simp only at hl1 hl2 hneg htr' hcnt hk
  refine Bw Tryz.func79 (by kernel_rfl) rfl Tryz.ntmps79 (by simp only[List.length_cons,List.length_nil];omega) (by kernel_rfl) rfl rfl (AF [(80,I7)]) (AD Uc AH) ?_
  intro w0 K O0 ρ0 hc hok1 hok2
  simp only[JT,A1]
  repeat'(first|exact trivial|refine eS rfl ?_|refine AB ?_|refine rX [0,1,4,5,40,54] hc ?_ ?_|refine rC ?_ ?_<;>intro AA<;>try(cases AA;done))
  ·exact eV
  ·have:=hf.1
   simp only[AO];omega
  ·have hm:=Gr hf n
   exact⟨⟨hn0,hn1⟩,Nat.le_trans hm (by omega)⟩
  ·have harcs:=fun a (ha:a∈Av (f.getD n.toNat (0,[])).2)=>Qd hf ha
   have hLlen:(Av (f.getD n.toNat (0,[])).2).length≤100000:=by rw[HY];exact Gr hf n
   generalize hL:Av (f.getD n.toNat (0,[])).2=L at harcs hLlen
   generalize hs1:(num.set n.toNat (ord.length:Int),ord++[n])=s1 at htr'
   have hfold:∀i,QI f ((L.take i).foldl (D5 f k) s1)∧JZ ((L.take i).foldl (D5 f k) s1).1≤JZ s1.1:=fun i=>Qf (Oj hf k) _ _ (fun a ha=>harcs a (List.mem_of_mem_take ha)) htr'
   have hn1:num.set n.toNat (ord.length:Int)=s1.1:=by rw[←hs1]
   have ho1:ord++[n]=s1.2:=by rw[←hs1]
   rw[hn1]at hcnt
   refine AK (ι:={i:Nat//i≤L.length}) (fun i=>⟨[(0,.bp 1 [] 0),(1,.p T3 n),(4,.p Vg L),(5,.p (.int .i64) (i.1:Int))],JT f ((L.take i.1).foldl (D5 f k) s1)⟩) (fun i=>L.length-i.1) ⟨0,by omega⟩ (A2N [36] (AC [(1,.nm 1),(2,.nm 2),(3,.nm 3)] rfl rfl ?_ ?_)) (fun i=>?_)
   ·simp only[JT]
    first|exact eN|refine eM ?_
    simp only[List.foldl_nil]
    rw[←hs1]
    simp
   ·first|exact eN|refine eM ?_
   ·obtain⟨i,hi⟩:=i
    obtain⟨hti,hci⟩:=hfold i
    have hnext:=fun(h:i<L.length)=>Ol (D5 f k) L (0,0) s1 h
    generalize hsi:(L.take i).foldl (D5 f k) s1=si at hti hci hnext
    simp only[JT]
    repeat'(first|exact trivial|refine eS rfl ?_|refine AB ?_|refine rX [0,1,4,5,40,54] hc ?_ ?_|refine rC ?_ ?_<;>intro AA<;>try(cases AA;done))
    ·have hiL:i<L.length:=by exact eV
     have:=harcs _ (AE L (0,0) hiL)
     obtain⟨h1,h2⟩:=hti
     refine⟨by exact eV,this.1,?_⟩
     rw[h1]
     exact this.2
    ·have hiL:i<L.length:=by exact eV
     have hr:=harcs _ (AE L (0,0) hiL)
     refine cP 6 hc ?_ ?_
     ·exact eV
     ·refine rM hc (ih si (L.getD i (0,0)).2 hti hr.1 hr.2 (by simpa using AA) (by omega)) [(1,.nm 1),(2,.nm 2),(3,.nm 3)] [2,3] ?_ ?_ ?_
      ·first|exact eN|refine eM ?_
      ·simp only[JT]
       first|exact eN|refine eM ?_
      ·rintro _ _ ⟨rfl,rfl⟩
       refine⟨[(1,.nm 1),(2,.nm 2),(3,.nm 3)],.raw (.tuple #[]),JT f (D0 f k si (L.getD i (0,0)).2),rfl,rfl,?_,?_,rfl,rfl,CU ?_⟩
       ·simp only[JT]
        first|exact eN|refine eM ?_
       ·first|exact eN|refine eM ?_
       ·repeat'(first|exact trivial|refine eS rfl ?_|refine AB ?_|refine rX [0,1,4,5,40,54] hc ?_ ?_|refine rC ?_ ?_<;>intro AA<;>try(cases AA;done))
        ·exact eV
        ·have e:D5 f k si (L.getD i (0,0))=D0 f k si (L.getD i (0,0)).2:=if_pos (by simpa using AA)
         refine⟨⟨i+1,by omega⟩,by simp only;omega,AC [(1,.nm 1),(2,.nm 2),(3,.nm 3)] rfl rfl ?_ ?_⟩
         ·simp only[JT,hnext hiL,e]
          first|exact eN|refine eM ?_
         ·first|exact eN|refine eM ?_
    ·exact eV
    ·have hiL:i<L.length:=by exact eV
     have e:D5 f k si (L.getD i (0,0))=si:=if_neg (by simpa using AA)
     refine⟨⟨i+1,by omega⟩,by simp only;omega,AC [(1,.nm 1),(2,.nm 2),(3,.nm 3)] rfl rfl ?_ ?_⟩
     ·simp only[hnext hiL,e]
      first|exact eN|refine eM ?_
     ·first|exact eN|refine eM ?_
    ·have hk:L.take i=L:=List.take_of_length_le (by exact eV)
     rw[hk]at hsi
     have h1:D0 f (k+1) (num,ord) n=si:=by rw[HZ,hL,←hsi,←hs1]
     rw[h1]
     exact Am hc [] rfl (.inr rfl) (.raw (.tuple #[])) rfl ⟨rfl,rfl⟩
end
/- Functions of grammarlabref07: From. -/
section
attribute [local go_sem] I7
def YJ (f:List AL) (s:List Int×List Int):Prop:=∀n∈s.2,0≤n∧n<(f.length:Int)
theorem SR {f:List AL} (hf:BA f):∀(k:Nat) (s:List Int×List Int) (n:Int),YJ f s→0≤n→n<f.length→YJ f (D0 f k s n)
 | 0,s,n,h,_,_=>h
 | k+1,s,n,h,h0,h1=>by
  rw[HZ]
  have key:∀(l:List (Int×Int)) (t:List Int×List Int),(∀a∈l,0≤a.2∧a.2<(f.length:Int))→YJ f t→YJ f (l.foldl (D5 f k) t):=by
   intro l
   induction l with
   | nil=>intro t _ ht;exact ht
   | cons a l ih =>
    intro t hl ht
    simp only[List.foldl_cons]
    refine ih _ (fun b hb=>hl b (by simp[hb])) ?_
    unfold D5
    split
    ·exact SR hf k t a.2 ht (hl a (by simp)).1 (hl a (by simp)).2
    ·exact ht
  refine key _ _ (fun a ha=>Qd hf ha) ?_
  intro m hm
  simp only[List.mem_append,List.mem_singleton]at hm
  rcases hm with hm|rfl
  ·exact h m hm
  ·exact⟨h0,h1⟩
def Gt (f:List AL) (root:Int):List Int×List Int:=D0 f f.length (List.replicate f.length (-1),[]) root
def TP (num:List Int) (a:Int×Int):Int×Int:=(a.1,num.getD a.2.toNat 0)
def Lf (f:List AL) (num:List Int) (n:Int):AL:=((f.getD n.toNat (0,[])).1,(Av (f.getD n.toNat (0,[])).2).map (TP num))
def Lg (f:List AL) (root:Int):List AL:=(Gt f root).2.map (Lf f (Gt f root).1)
theorem YK (m:Nat):JZ (List.replicate m (-1))=m:=by
 induction m with
 | zero=>rfl
 | succ m ih=>simp only[JZ,List.replicate_succ,List.countP_cons]at ih ⊢;simp[ih]
theorem tr0 (f:List AL):QI f (List.replicate f.length (-1),[]):=⟨by simp,by simp[YK]⟩
theorem iA {f:List AL} {n:Int} (h0:0≤n) (h1:n<f.length):(List.replicate f.length (-1:Int)).getD n.toNat 0<0:=by
 have:n.toNat<f.length:=by omega
 simp[List.getD_eq_getElem?_getD,List.getElem?_replicate,this]
theorem iB {f:List AL} (hf:BA f) {n:Int} (h0:0≤n) (h1:n<f.length):QI f (Gt f n)∧YJ f (Gt f n) :=
 ⟨(Oj hf _ _ n (tr0 f) h0 h1 (iA h0 h1)).1,SR hf _ _ n (fun m hm=>by simp at hm) h0 h1⟩
theorem YL {α β:Type} (g:α→β) (h:β→α) (L:List α) (d:α) {k:Nat} (hk:k<L.length) (u:α→α):((L.take k).map u++L.drop k).set k (u (L.getD k d))=(L.take (k+1)).map u++L.drop (k+1)∧((L.take k).map u++L.drop k).getD k d=L.getD k d:=by
 have h1:((L.take k).map u).length=k:=by simp;omega
 have h2:L.drop k=L.getD k d :: L.drop (k+1):=by
  rw[List.drop_eq_getElem_cons hk,List.getD_eq_getElem?_getD,List.getElem?_eq_getElem hk];rfl
 constructor
 ·rw[Ab L d hk,List.set_append_right _ _ (by omega),h1,Nat.sub_self,h2]
  simp
 ·rw[List.getD_eq_getElem?_getD,List.getElem?_append_right (by omega),h1,Nat.sub_self,h2];rfl
def YM:Ae:={ ins:=[HS,T3],pre:=fun(f,n,_)=>BA f∧0≤n∧n<(List.length f:Int),out:=fun(f,n,_)=>[.p HS (Lg f n)] }
theorem xM:Ag Tryz.prog 54 YM:=by
 refine AR Tryz.func54 (by kernel_rfl) rfl Tryz.ntmps54 (by decide) (by kernel_rfl) (AF [(80,I7)]) (AD Uc AH) ?_
 rintro w0 O0 ⟨f,root,u⟩ hc-⟨hf,hr0,hr1⟩
 simp only[YM,AN]
 have hfl:=hf.1
 repeat'(first|exact trivial|refine eS rfl ?_|refine AB ?_|refine rX [0,1,2,4,5,6,7,8,9,10,11,19,40,60] hc ?_ ?_|refine rC ?_ ?_<;>intro AA<;>try(cases AA;done))
 refine AK (ι:={i:Nat//i≤f.length}) (fun i=>⟨[(1,.p T3 root),(2,.bp 2 [] 0),(4,.bp 4 [] 0),(5,.bp 14 [] 0),(6,.p (.int .i64) (i.1:Int))],[(2,.box 24 true [.p MZ f]),(4,.box 24 true [.raw (.slice none 0 0)]),(14,.box 140 true [.p HS f,.sr 10 T3 0 i.1,.raw (.slice none 0 0)]),(10,.arr 3 T3 (List.replicate i.1 (-1)))]⟩) (fun i=>f.length-i.1) ⟨0,by omega⟩ (AC [(2,.nm 2),(4,.nm 4),(14,.nm 14),(10,.nil)] rfl rfl ?_ ?_) (fun i=>?_)
 ·first|exact eN|refine eM ?_
  rfl
 ·first|exact eN|refine eM ?_
 ·obtain⟨i,hi⟩:=i
  repeat'(first|exact trivial|refine eS rfl ?_|refine AB ?_|refine rX [0,1,2,4,5,6,7,8,9,10,11,19,40,60] hc ?_ ?_|refine rC ?_ ?_<;>intro AA<;>try(cases AA;done))
  ·simp only[AO];omega
  ·exact eV
  ·have hi:i<List.length f:=by exact eV
   refine⟨⟨i+1,by omega⟩,by simp only;omega,AC [(2,.nm 2),(4,.nm 4),(14,.nm 14),(10,.nm 10)] rfl rfl ?_ ?_⟩
   ·first|exact eN|refine eM ?_
    rw[List.replicate_succ']
    simp
   ·first|exact eN|refine eM ?_
  ·have hif:i=List.length f:=by exact eV
   subst hif
   have hvo:=iB hf hr0 hr1
   refine cP 2 hc ?_ ?_
   ·trivial
   ·refine rM hc (qJ f hf (List.length f) (List.replicate (List.length f) (-1),[]) root (tr0 f) hr0 hr1 (iA hr0 hr1) (by rw[YK];exact Nat.le_refl _)) [(1,.nm 14),(2,.nm 10),(3,.nil)] [10] ?_ ?_ ?_
    ·first|exact eN|refine eM ?_
    ·simp only[JT]
     first|exact eN|refine eM ?_
     simp
    ·rintro _ _ ⟨rfl,rfl⟩
     refine⟨[(14,.nm 1),(101,.nm 2),(102,.nm 3)],.raw (.tuple #[]),[(14,.box 140 true [.p HS f,.sr 101 T3 0 (Gt f root).1.length,.sr 102 T3 0 (Gt f root).2.length]),(101,.arr 3 T3 (Gt f root).1),(102,.arr 3 T3 (Gt f root).2)],rfl,rfl,?_,?_,rfl,rfl,CU ?_⟩
     ·simp only[JT,Gt]
      first|exact eN|refine eM ?_
     ·first|exact eN|refine eM ?_
     ·have hfrom:Lg f root=(Gt f root).2.map (Lf f (Gt f root).1):=rfl
      rw[hfrom]
      generalize Gt f root=s at hvo
      obtain⟨num,ord⟩:=s
      obtain⟨⟨hn1,hn2⟩,hord⟩:=hvo
      simp only at hn1 hn2
      have hord:∀n∈ord,0≤n∧n<(List.length f:Int):=hord
      repeat'(first|exact trivial|refine eS rfl ?_|refine AB ?_|refine rX [0,1,2,4,5,6,7,8,9,10,11,19,40,60] hc ?_ ?_|refine rC ?_ ?_<;>intro AA<;>try(cases AA;done))
      refine AK (ι:={i:Nat//i≤ord.length}) (fun i=>⟨[(2,.bp 2 [] 0),(4,.bp 4 [] 0),(5,.bp 14 [] 0),(7,.bp 7 [] 0),(8,.p (.int .i64) (i.1:Int))],[(2,.box 24 true [.p MZ f]),(4,.box 24 true [.raw (.slice none 0 0)]),(14,.box 140 true [.p HS f,.sr 101 T3 0 num.length,.sr 102 T3 0 ord.length]),(101,.arr 3 T3 num),(102,.arr 3 T3 ord),(7,.box 24 true [.sr 200 z8 0 i.1]),(200,.arr 61 z8 ((ord.take i.1).map (Lf f num)))]⟩) (fun i=>ord.length-i.1) ⟨0,by omega⟩ (AC [(2,.nm 2),(4,.nm 4),(14,.nm 14),(101,.nm 101),(102,.nm 102),(7,.nm 7),(200,.nil)] rfl rfl ?_ ?_) (fun i=>?_)
      ·first|exact eN|refine eM ?_
      ·first|exact eN|refine eM ?_
      ·obtain⟨i,hi⟩:=i
       repeat'(first|exact trivial|refine eS rfl ?_|refine AB ?_|refine rX [0,1,2,4,5,6,7,8,9,10,11,19,40,60] hc ?_ ?_|refine rC ?_ ?_<;>intro AA<;>try(cases AA;done))
       ·have hi:i<ord.length:=by exact eV
        exact⟨by exact eV,hord _ (AE ord 0 hi)⟩
       ·exact Nat.le_trans (Gr hf _) (by omega)
       ·have hi:i<ord.length:=by exact eV
        have harcs:=fun a (ha:a∈Av (f.getD (Int.toNat (ord.getD i 0)) (0,[])).2)=>Qd hf ha
        have hnode:Lf f num (ord.getD i 0)=((f.getD (Int.toNat (ord.getD i 0)) (0,[])).1,(Av (f.getD (Int.toNat (ord.getD i 0)) (0,[])).2).map (TP num)):=rfl
        have hxl:=Gr hf (ord.getD i 0)
        generalize List.getD f (Int.toNat (ord.getD i 0)) (0,[])=x at *
        obtain⟨xt,xa⟩:=x
        simp only at harcs hnode hxl
        have hLl:=HY xa
        generalize Av xa=L at *
        refine AK (ι:={k:Nat//k≤L.length}) (fun k=>⟨[(2,.bp 2 [] 0),(4,.bp 4 [] 0),(5,.bp 14 [] 0),(7,.bp 7 [] 0),(8,.p (.int .i64) (i:Int)),(9,.bp 9 [] 0),(10,.sr 56 sX 0 L.length),(11,.p (.int .i64) (k.1:Int))],[(56,.arr 63 sX ((L.take k.1).map (TP num)++L.drop k.1)),(9,.box 61 true [.p T3 xt,.p Vg xa]),(2,.box 24 true [.p MZ f]),(4,.box 24 true [.raw (.slice none 0 0)]),(14,.box 140 true [.p HS f,.sr 101 T3 0 num.length,.sr 102 T3 0 ord.length]),(101,.arr 3 T3 num),(102,.arr 3 T3 ord),(7,.box 24 true [.sr 200 z8 0 i]),(200,.arr 61 z8 ((ord.take i).map (Lf f num)))]⟩) (fun k=>L.length-k.1) ⟨0,by omega⟩ (AC [(2,.nm 2),(4,.nm 4),(14,.nm 14),(101,.nm 101),(102,.nm 102),(7,.nm 7),(200,.nm 200),(9,.nm 9),(56,.nm 56)] rfl rfl ?_ ?_) (fun k=>?_)
        ·first|exact eN|refine eM ?_
        ·first|exact eN|refine eM ?_
        ·obtain⟨k,hk⟩:=k
         repeat'(first|exact trivial|refine eS rfl ?_|refine AB ?_|refine rX [0,1,2,4,5,6,7,8,9,10,11,19,40,60] hc ?_ ?_|refine rC ?_ ?_<;>intro AA<;>try(cases AA;done))
         ·have hkL:k<L.length:=by exact eV
          have e:=(YL (TP num) (fun b=>b) L (0,0) hkL (TP num)).2
          rw[e]
          have:=harcs _ (AE L (0,0) hkL)
          rw[hn1]
          exact⟨by exact eV,this,by exact eV⟩
         ·exact eV
         ·have hkL:k<L.length:=by exact eV
          have e:=YL (TP num) (fun b=>b) L (0,0) hkL (TP num)
          refine⟨⟨k+1,by omega⟩,by simp only;omega,AC [(2,.nm 2),(4,.nm 4),(14,.nm 14),(101,.nm 101),(102,.nm 102),(7,.nm 7),(200,.nm 200),(9,.nm 9),(56,.nm 56)] rfl rfl ?_ ?_⟩
          ·first|exact eN|refine eM ?_
           rw[e.2]
           exact e.1
          ·first|exact eN|refine eM ?_
         ·simp only[AO];have:=hn2;omega
         ·exact eV
         ·have hkL:L.take k=L:=List.take_of_length_le (by exact eV)
          have hdL:L.drop k=[]:=List.drop_eq_nil_of_le (by exact eV)
          refine⟨⟨i+1,by omega⟩,by simp only;omega,AC [(2,.nm 2),(4,.nm 4),(14,.nm 14),(101,.nm 101),(102,.nm 102),(7,.nm 7),(200,.nm 200)] rfl rfl ?_ ?_⟩
          ·first|exact eN|refine eM ?_
           rw[hkL,hdL,List.append_nil,Ab ord 0 hi,List.map_append,List.map_cons,List.map_nil,hnode]
           have t1:List.take i ((ord.take i).map (Lf f num))=(ord.take i).map (Lf f num):=List.take_of_length_le (by rw[List.length_map,List.length_take];omega)
           have t2:List.take L.length (L.map (TP num))=L.map (TP num):=List.take_of_length_le (by rw[List.length_map];omega)
           rw[t1,t2]
          ·first|exact eN|refine eM ?_
       ·have hk:ord.take i=ord:=List.take_of_length_le (by exact eV)
        rw[hk]
        refine AG hc [.cell 4 24] rfl (.inl rfl) (by simp) (by first|exact eR|refine Al ?_;exact List.take_of_length_le (by rw[List.length_map];exact eV))
end
/- Functions of grammarlabref07: Canon, Sub; grammarlabref15: in, arc, canon. -/
section
attribute [local go_sem] hZ YM
theorem SS {n:Int}:∀ {l seen:List (Int×Int)},NY n seen l=0→∀a∈l,0≤a.1∧0≤a.2∧a.2<n
 | [],_,_,a,ha=>by cases ha
 | x :: l,seen,h,a,ha=>by
  simp only[NY]at h
  split at h
  ·cases h
  ·split at h
   ·cases h
   ·rename_i h1 _
    rcases List.mem_cons.1 ha with rfl|ha
    ·omega
    ·exact SS h a ha
theorem I8 {m:Int}:∀ {f:List (Int×List (Int×Int))},JR m f=0→∀x∈f,0≤x.1∧∀a∈x.2,0≤a.1∧0≤a.2∧a.2<m
 | [],_,x,hx=>by cases hx
 | y :: f,h,x,hx=>by
  simp only[JR]at h
  split at h
  ·cases h
  ·split at h
   ·rename_i h1 h2;exact absurd h h2
   ·rename_i h1 h2
    have h2:IQ y.2 m=0:=Classical.byContradiction h2
    rcases List.mem_cons.1 hx with rfl|hx
    ·exact⟨by omega,SS h2⟩
    ·exact I8 h x hx
def WD (f:List (Int×List (Int×Int))):Prop:=∀x∈f,x.2.length≤100000
theorem MO {f:List (Int×List (Int×Int))} (h:Dz f=0) (hs:WD f):BA f∧0<f.length:=by
 unfold Dz at h
 split at h
 ·cases h
 ·split at h
  ·cases h
  ·refine⟨⟨by omega,fun x hx=>⟨hs x hx,fun a ha=>?_⟩⟩,by omega⟩
   have:=(I8 h x hx).2 a ha
   exact⟨this.2.1,this.2.2⟩
def CJ (f:List AL):List AL×Int:=if Dz f=0 then (Lg f 0,0) else ([],Dz f)
def ST:Ae:={ ins:=[HS],pre:=fun(f,_)=>WD f,out:=fun(f,_)=>[.p HS (CJ f).1,.p XZ (CJ f).2] }
theorem qK:Ag Tryz.prog 31 ST:=by
 refine AR Tryz.func31 (by kernel_rfl) rfl Tryz.ntmps31 (by decide) (by kernel_rfl) (AF [(53,hZ),(54,YM)]) (AD xL (AD xM AH)) ?_
 rintro w0 O0 ⟨f,u⟩ hc-hs
 simp only[ST,AN]
 repeat'(first|exact trivial|refine eS rfl ?_|refine AB ?_|refine rX [0,1,2,3,4,8] hc ?_ ?_|refine rC ?_ ?_<;>intro AA<;>try(cases AA;done))
 ·have h:¬Dz f=0:=by simpa using AA
  have e:CJ f=([],Dz f):=if_neg h
  exact AG hc [.cell 2 24,.tmp 3] rfl (.inl rfl) (by simp) (by rw[e];first|exact eR|refine Al ?_)
 ·have h:Dz f=0:=by simpa using AA
  have:=MO h hs
  exact⟨this.1,by exact eV⟩
 ·have h:Dz f=0:=by simpa using AA
  have e:CJ f=(Lg f 0,0):=if_pos h
  exact AG hc [.cell 2 24,.tmp 3] rfl (.inl rfl) (by simp) (by rw[e];first|exact eR|refine Al ?_)
end
/- Functions of grammarlabref15: LightPaths; grammarlabref07.Atom. -/
section
open Go
end
/- Functions of grammarlabref15: Canonical. -/
section
attribute [local go_sem] SL ST Oh
def ftB (a:Int×Int):Bool:=decide (a.1<64)
def ndB (x:AL):Bool:=decide (x.1<256)&&x.2.all ftB
def DR (f:List AL):Bool:=F5 f&&f.all ndB&&((CJ f).2==0&&(Cf (CJ f).1 f==0))
theorem KO {f:List AL} (h:F5 f=true):f.length≤12∧∀x∈f,x.2.length≤12:=by
 unfold F5 at h
 simp only[Bool.and_eq_true,decide_eq_true_eq,List.all_eq_true]at h
 exact h
theorem aB {f:List AL} (hf:BA f) {n:Int} (h0:0≤n) (h1:n<f.length):Gq (Lg f n):=by
 obtain⟨⟨g1,g2⟩,_⟩:=iB hf h0 h1
 have hfl:=hf.1
 refine⟨?_,fun x hx=>?_⟩
 ·unfold Lg
  rw[List.length_map]
  omega
 ·obtain⟨m,_,rfl⟩:=List.mem_map.1 hx
  unfold Lf
  simp only[List.length_map,HY]
  exact Gr hf m
theorem YN {f:List AL} (hs:WD f):Gq (CJ f).1:=by
 unfold CJ
 split
 ·rename_i h
  obtain⟨h1,h2⟩:=MO h hs
  exact aB h1 (by omega) (by omega)
 ·exact⟨by simp,fun x hx=>by cases hx⟩
end
/- Functions of Go's library under graph.canonical: isNaN, Compare, byFeature, the sort of what is sorted. -/
section
def WE:Ae:={ ins:=[T3],pre:=fun _=>True,out:=fun _=>[.p .bool false] }
attribute [local go_sem] WE
def Ej (a b:Int):Int:=if a<b then -1 else if b<a then 1 else 0
def DB:Ae:={ ins:=[T3,T3],pre:=fun _=>True,out:=fun(a,b,_)=>[.p T3 (Ej a b)] }
attribute [local go_sem] DB
theorem qL:Ag Tryz.prog 74 WE:=by
 refine AR Tryz.func74 (by kernel_rfl) rfl Tryz.ntmps74 (by decide) (by kernel_rfl) (AF []) AH ?_
 rintro w0 O0 ⟨x,u⟩ hc - -
 simp only[WE,AN]
 repeat'(first|exact trivial|refine eS rfl ?_|refine AB ?_|refine rX [0,2] hc ?_ ?_|refine rC ?_ ?_<;>intro AA<;>try(cases AA;done))
 exact AG hc [.tmp 2] rfl (.inl rfl) (by simp) (by first|exact eR|refine Al ?_)
theorem Ht:Ag Tryz.prog 48 DB:=by
 refine AR Tryz.func48 (by kernel_rfl) rfl Tryz.ntmps48 (by decide) (by kernel_rfl) (AF [(74,WE)]) (AD qL AH) ?_
 rintro w0 O0 ⟨a,b,u⟩ hc - -
 simp only[DB,AN]
 repeat'(first|exact trivial|refine eS rfl ?_|refine AB ?_|refine rX [0,1,4,5,6,11,12,13,16,19] hc ?_ ?_|refine rC ?_ ?_<;>intro AA<;>try(cases AA;done))
 ·have e:Ej a b=-1:=if_pos AA
  exact AG hc [.tmp 4] rfl (.inl rfl) (by simp) (by rw[e];first|exact eR|refine Al ?_)
 ·have e:Ej a b=1:=by unfold Ej;rw[if_neg (by omega),if_pos AA]
  exact AG hc [.tmp 4] rfl (.inl rfl) (by simp) (by rw[e];first|exact eR|refine Al ?_)
 ·have e:Ej a b=0:=by unfold Ej;rw[if_neg (by omega),if_neg (by omega)]
  exact AG hc [.tmp 4] rfl (.inl rfl) (by simp) (by rw[e];first|exact eR|refine Al ?_)
def lG (l:List (Int×Int)):Prop:=∀i,i+1<l.length→(l.getD i (0,0)).1<(l.getD (i+1) (0,0)).1
end
/- The plain law under graph.canonical: the program's search and the reference's are one, where each node's arcs ascend. -/
section
def KP (f:List AL):Nat→List Int→Int→List Int
 | 0,o,_=>o
 | k+1,o,n=>(f.getD n.toNat (0,[])).2.foldl (fun o a=>if a.2∈o then o else KP f k o a.2) (o++[n])
def Cv (f:List AL) (k:Nat) (o:List Int) (a:Int×Int):List Int:=if a.2∈o then o else KP f k o a.2
theorem IR (f:List AL) (k:Nat) (o:List Int) (n:Int):KP f (k+1) o n=(f.getD n.toNat (0,[])).2.foldl (Cv f k) (o++[n]):=rfl
structure SU (f:List AL) (o:List Int):Prop where
 nd:o.Nodup
 rng:∀x∈o,0≤x∧x<(f.length:Int)
theorem SU.len {f:List AL} {o:List Int} (h:SU f o):o.length≤f.length:=by
 have h1:(o.map Int.toNat).Nodup:=by
  rw[List.Nodup,List.pairwise_map]
  refine h.nd.imp_of_mem fun {a b} ha hb hne e=>hne ?_
  have:=h.rng a ha
  have:=h.rng b hb
  omega
 have:=EB f.length (o.map Int.toNat) h1 (fun j hj=>by
  obtain⟨x,hx,rfl⟩:=List.mem_map.1 hj
  have:=h.rng x hx
  omega)
 simpa using this
theorem SU.snoc {f:List AL} {o:List Int} (h:SU f o) {n:Int} (h0:0≤n) (h1:n<f.length) (hn:n∉o):SU f (o++[n]):=by
 refine⟨?_,fun x hx=>?_⟩
 ·rw[List.nodup_append]
  refine⟨h.nd,by simp,fun a ha b hb=>?_⟩
  have:b=n:=by simpa using hb
  subst this
  intro e
  subst e
  exact hn ha
 ·rcases List.mem_append.1 hx with hx|hx
  ·exact h.rng x hx
  ·have:x=n:=by simpa using hx
   subst this
   exact⟨h0,h1⟩
theorem IT {f:List AL} {k:Nat} (hv:∀(o:List Int) (n:Int),SU f o→0≤n→n<f.length→n∉o→SU f (KP f k o n)∧o <+: KP f k o n) :
  ∀(l:List (Int×Int)) (o:List Int),(∀a∈l,0≤a.2∧a.2<(f.length:Int))→SU f o→SU f (l.foldl (Cv f k) o)∧o <+: l.foldl (Cv f k) o
 | [],o,_,h=>⟨h,List.prefix_refl _⟩
 | a :: l,o,hl,h=>by
  simp only[List.foldl_cons]
  have hstep:SU f (Cv f k o a)∧o <+: Cv f k o a:=by
   unfold Cv
   split
   ·exact⟨h,List.prefix_refl _⟩
   ·rename_i hn
    exact hv o a.2 h (hl a (by simp)).1 (hl a (by simp)).2 hn
  obtain⟨g1,g2⟩:=IT hv l _ (fun b hb=>hl b (by simp[hb])) hstep.1
  exact⟨g1,hstep.2.trans g2⟩
theorem D6 {f:List AL} (hf:BA f) {n:Int} {a:Int×Int} (ha:a∈(f.getD n.toNat (0,[])).2):0≤a.2∧a.2<f.length:=by
 by_cases h:n.toNat<f.length
 ·have hm:f.getD n.toNat (0,[])∈f:=by
   rw[List.getD_eq_getElem?_getD,List.getElem?_eq_getElem h];exact List.getElem_mem h
  exact(hf.2 _ hm).2 a ha
 ·rw[List.getD_eq_getElem?_getD,List.getElem?_eq_none (by omega)]at ha
  simp at ha
theorem Hu {f:List AL} (hf:BA f):∀(k:Nat) (o:List Int) (n:Int),SU f o→0≤n→n<f.length→n∉o→SU f (KP f k o n)∧o <+: KP f k o n
 | 0,o,n,h,_,_,_=>⟨h,List.prefix_refl _⟩
 | k+1,o,n,h,h0,h1,h2=>by
  obtain⟨g1,g2⟩:=IT (Hu hf k) _ _ (fun a ha=>D6 hf ha) (h.snoc h0 h1 h2)
  rw[IR]
  exact⟨g1,(List.prefix_append o [n]).trans g2⟩
theorem MP {f:List AL} (hf:BA f):∀(k:Nat) (o:List Int) (n:Int),SU f o→0≤n→n<f.length→n∉o→f.length-o.length≤k →
  n∈KP f k o n∧∀x∈KP f k o n,x∈o∨∀a∈(f.getD x.toNat (0,[])).2,a.2∈KP f k o n
 | 0,o,n,h,h0,h1,h2,hk=>by
  have:=(h.snoc h0 h1 h2).len
  simp only[List.length_append,List.length_singleton]at this
  omega
 | k+1,o,n,h,h0,h1,h2,hk=>by
  have key:∀(l:List (Int×Int)) (t:List Int),(∀a∈l,0≤a.2∧a.2<(f.length:Int))→SU f t→f.length-t.length≤k →
    (∀a∈l,a.2∈l.foldl (Cv f k) t)∧∀x∈l.foldl (Cv f k) t,x∈t∨∀a∈(f.getD x.toNat (0,[])).2,a.2∈l.foldl (Cv f k) t:=by
   intro l
   induction l with
   | nil=>exact fun t _ _ _=>⟨fun a ha=>(by cases ha),fun x hx=>.inl hx⟩
   | cons a l ih =>
    intro t hl ht hlen
    simp only[List.foldl_cons]
    have hstep:SU f (Cv f k t a)∧t <+: Cv f k t a∧a.2∈Cv f k t a∧∀x∈Cv f k t a,x∈t∨∀b∈(f.getD x.toNat (0,[])).2,b.2∈Cv f k t a:=by
     unfold Cv
     split
     ·rename_i hn
      exact⟨ht,List.prefix_refl _,hn,fun x hx=>.inl hx⟩
     ·rename_i hn
      have q:=hl a (by simp)
      obtain⟨g1,g2⟩:=Hu hf k t a.2 ht q.1 q.2 hn
      obtain⟨g3,g4⟩:=MP hf k t a.2 ht q.1 q.2 hn hlen
      exact⟨g1,g2,g3,g4⟩
    obtain⟨g1,g2,g3,g4⟩:=hstep
    have hle:=g2.length_le
    obtain⟨i1,i2⟩:=ih (Cv f k t a) (fun b hb=>hl b (by simp[hb])) g1 (by omega)
    obtain⟨_,j2⟩:=IT (Hu hf k) l (Cv f k t a) (fun b hb=>hl b (by simp[hb])) g1
    refine⟨fun b hb=>?_,fun x hx=>?_⟩
    ·rcases List.mem_cons.1 hb with rfl|hb
     ·exact j2.subset g3
     ·exact i1 b hb
    ·rcases i2 x hx with hx|hx
     ·rcases g4 x hx with hx|hx
      ·exact .inl hx
      ·exact .inr fun b hb=>j2.subset (hx b hb)
     ·exact .inr hx
  have hs:=h.snoc h0 h1 h2
  obtain⟨g1,g2⟩:=key (f.getD n.toNat (0,[])).2 (o++[n]) (fun a ha=>D6 hf ha) hs (by simp only[List.length_append,List.length_singleton];omega)
  obtain⟨_,g3⟩:=IT (Hu hf k) (f.getD n.toNat (0,[])).2 (o++[n]) (fun a ha=>D6 hf ha) hs
  rw[IR]
  refine⟨g3.subset (by simp),fun x hx=>?_⟩
  rcases g2 x hx with hx|hx
  ·rcases List.mem_append.1 hx with hx|hx
   ·exact .inl hx
   ·have:x=n:=by simpa using hx
    subst this
    exact .inr g1
  ·exact .inr hx
def TQ (o:List Int) (x:Int):Int:=if x∈o then (o.idxOf x:Int) else 0
def xN (o:List Int) (a:Int×Int):Int×Int:=(a.1,TQ o a.2)
def iC (f:List AL) (o:List Int) (n:Int):AL:=((f.getD n.toNat (0,[])).1,(f.getD n.toNat (0,[])).2.map (xN o))
def CP (f:List AL) (root:Int):List AL:=(KP f f.length [] root).map (iC f (KP f f.length [] root))
def FY (f:List AL):Prop:=∀x∈f,lG x.2∧x.2.length≤200
theorem aC {f:List AL} (hf:FY f) (n:Int):lG (f.getD n.toNat (0,[])).2∧(f.getD n.toNat (0,[])).2.length≤200:=by
 by_cases h:n.toNat<f.length
 ·have hm:f.getD n.toNat (0,[])∈f:=by
   rw[List.getD_eq_getElem?_getD,List.getElem?_eq_getElem h];exact List.getElem_mem h
  exact hf _ hm
 ·rw[List.getD_eq_getElem?_getD,List.getElem?_eq_none (by omega)]
  exact⟨fun i hi=>by simp at hi,by simp⟩
theorem Po {l:List (Int×Int)} (h:lG l):Av l=l:=by
 have key:∀i,i≤l.length→Av (l.take i)=l.take i:=by
  intro i
  induction i with
  | zero=>intro _;rfl
  | succ i ih =>
   intro hi
   rw[Ab l (0,0) (by omega),I6,ih (by omega)]
   have hlen:(l.take i).length=i:=by rw[List.length_take];omega
   have hpos:JY (l.getD i (0,0)) (l.take i) (l.take i).length=(l.take i).length:=by
    rw[hlen]
    cases i with
    | zero=>rfl
    | succ i =>
     have h1:=h i (by omega)
     have h2:(l.take (i+1)).getD i (0,0)=l.getD i (0,0):=by
      simp only[List.getD_eq_getElem?_getD]
      rw[List.getElem?_take];simp
     simp only[JY]
     rw[h2,if_neg (by omega)]
   unfold Oi
   rw[hpos,List.take_length,List.drop_length,List.append_nil]
 have:=key l.length (Nat.le_refl _)
 rwa [List.take_length]at this
structure JU (f:List AL) (num o:List Int):Prop where
 len:num.length=f.length
 get:∀j,j<f.length→num.getD j 0=if (j:Int)∈o then (o.idxOf (j:Int):Int) else -1
theorem JU.neg {f:List AL} {num o:List Int} (h:JU f num o) {n:Int} (h0:0≤n) (h1:n<f.length):num.getD n.toNat 0<0↔n∉o:=by
 have:=h.get n.toNat (by omega)
 rw[show ((n.toNat:Nat):Int)=n by omega]at this
 rw[this]
 split
 ·rename_i hm
  constructor
  ·intro e;omega
  ·intro e;exact absurd hm e
 ·rename_i hm
  exact⟨fun _=>hm,fun _=>by omega⟩
theorem lH {o:List Int} {x n:Int} (h:x∈o):(o++[n]).idxOf x=o.idxOf x:=by rw[List.idxOf_append,if_pos h]
theorem lI {o:List Int} {n:Int} (h:n∉o):(o++[n]).idxOf n=o.length:=by rw[List.idxOf_append,if_neg h];simp
theorem JU.snoc {f:List AL} {num o:List Int} (h:JU f num o) {n:Int} (h0:0≤n) (h1:n<f.length) (hn:n∉o):JU f (num.set n.toNat (o.length:Int)) (o++[n]):=by
 refine⟨by simpa using h.len,fun j hj=>?_⟩
 have hj':j<num.length:=by rw[h.len];exact hj
 by_cases e:j=n.toNat
 ·subst e
  have en:((n.toNat:Nat):Int)=n:=by omega
  rw[en]
  simp only[List.getD_eq_getElem?_getD]
  rw[List.getElem?_set_self hj',if_pos (by simp),lI hn]
  simp
 ·have en:¬(j:Int)=n:=by omega
  simp only[List.getD_eq_getElem?_getD]
  rw[List.getElem?_set_ne (fun e'=>e e'.symm)]
  have:=h.get j hj
  simp only[List.getD_eq_getElem?_getD]at this
  rw[this]
  by_cases hm:(j:Int)∈o
  ·rw[if_pos hm,if_pos (by simp[hm]),lH hm]
  ·rw[if_neg hm,if_neg (by simp[hm,en])]
theorem SV {f:List AL} (hf:BA f) (hs:FY f):∀(k:Nat) (s:List Int×List Int) (n:Int),JU f s.1 s.2→SU f s.2→0≤n→n<f.length→n∉s.2→(D0 f k s n).2=KP f k s.2 n∧JU f (D0 f k s n).1 (D0 f k s n).2
 | 0,s,n,h,_,_,_,_=>⟨rfl,h⟩
 | k+1,s,n,h,hd,h0,h1,h2=>by
  have key:∀(l:List (Int×Int)) (t:List Int×List Int),(∀a∈l,0≤a.2∧a.2<(f.length:Int))→JU f t.1 t.2→SU f t.2→(l.foldl (D5 f k) t).2=l.foldl (Cv f k) t.2∧JU f (l.foldl (D5 f k) t).1 (l.foldl (D5 f k) t).2:=by
   intro l
   induction l with
   | nil=>exact fun t _ ht _=>⟨rfl,ht⟩
   | cons a l ih =>
    intro t hl ht htd
    simp only[List.foldl_cons]
    have q:=hl a (by simp)
    have hq:=ht.neg q.1 q.2
    have hstep:(D5 f k t a).2=Cv f k t.2 a∧JU f (D5 f k t a).1 (D5 f k t a).2∧SU f (D5 f k t a).2:=by
     unfold D5 Cv
     by_cases hm:a.2∈t.2
     ·rw[if_pos hm,if_neg (by rw[hq];exact fun e=>e hm)]
      exact⟨rfl,ht,htd⟩
     ·rw[if_neg hm,if_pos (by rw[hq];exact hm)]
      obtain⟨g1,g2⟩:=SV hf hs k t a.2 ht htd q.1 q.2 hm
      exact⟨g1,g2,by rw[g1];exact(Hu hf k t.2 a.2 htd q.1 q.2 hm).1⟩
    obtain⟨g1,g2,g3⟩:=hstep
    obtain⟨i1,i2⟩:=ih (D5 f k t a) (fun b hb=>hl b (by simp[hb])) g2 g3
    rw[g1]at i1
    exact⟨i1,i2⟩
  rw[HZ,IR,Po (aC hs n).1]
  exact key _ (s.1.set n.toNat (s.2.length:Int),s.2++[n]) (fun a ha=>D6 hf ha) (h.snoc h0 h1 h2) (hd.snoc h0 h1 h2)
theorem SW {f:List AL} (hf:BA f) (hs:FY f) {root:Int} (h0:0≤root) (h1:root<f.length):Lg f root=CP f root:=by
 have hn0:JU f (List.replicate f.length (-1)) []:=⟨by simp,fun j hj=>by simp[List.getD_eq_getElem?_getD,List.getElem?_replicate,hj]⟩
 have hd0:SU f []:=⟨by simp,fun x hx=>by cases hx⟩
 obtain⟨g1,g2⟩:=SV hf hs f.length (List.replicate f.length (-1),[]) root hn0 hd0 h0 h1 (by simp)
 have g1:(Gt f root).2=KP f f.length [] root:=g1
 have g2:JU f (Gt f root).1 (Gt f root).2:=g2
 have hc:=(MP hf f.length [] root hd0 h0 h1 (by simp) (by simp)).2
 have ho:=(Hu hf f.length [] root hd0 h0 h1 (by simp)).1
 unfold Lg CP
 rw[g1]at g2 ⊢
 generalize KP f f.length [] root=o at *
 refine List.map_congr_left fun x hx=>?_
 unfold Lf iC
 rw[Po (aC hs x).1]
 refine congrArg _ (List.map_congr_left fun a ha=>?_)
 unfold TP xN TQ
 have hin:a.2∈o:=by
  rcases hc x hx with hx'|hx'
  ·cases hx'
  ·exact hx' a ha
 have hr:=D6 hf ha
 have:=g2.get a.2.toNat (by omega)
 rw[show ((a.2.toNat:Nat):Int)=a.2 by omega]at this
 rw[this,if_pos hin,if_pos hin]
/-! The program's map of numbers -/
theorem TR {α:Type} {p:List α→Prop} (h0:p []) (h1:∀l a,p l→p (l++[a])) (l:List α):p l:=by
 have:∀n (l:List α),l.length=n→p l:=by
  intro n
  induction n with
  | zero=>intro l hl;rw[List.length_eq_zero_iff.1 hl];exact h0
  | succ n ih =>
   intro l hl
   have hne:l≠[]:=by intro e;subst e;simp at hl
   rw[←List.dropLast_concat_getLast hne]
   exact h1 _ _ (ih _ (by simp[hl]))
 exact this _ l rfl
end
/- Functions of Go's library under graph.canonical: the sort of sorted elements. -/
section
open Go
end
/- Functions of Go's library under graph.canonical: Values, AppendSeq, Collect, SortFunc, SortedFunc, of what is sorted. -/
section
theorem qM {L:Go.Loop} (h1:L.state=.ready) (h2:L.pending=none):{ { L with state:=.busy } with state:=.ready,pending:=none }=L:=by
 cases L;simp_all
theorem qN (x:Int) (h0:0≤x) (h1:x<256):B9 Tryz.prog 112 [.p (.int .u64) x] [] [] (fun res objs'=>(∃n:Int,res=.p T3 n∧(13≤x→n≠0))∧objs'=[]):=by
 refine Bw Tryz.func112 (by kernel_rfl) rfl Tryz.ntmps112 (by simp only[List.length_cons,List.length_nil];omega) (by kernel_rfl) rfl rfl (AF []) AH ?_
 intro w0 K O0 ρ0 hc hok1 hok2
 simp only[A1]
 repeat'(first|exact trivial|refine eS rfl ?_|refine AB ?_|refine rX [0,2,4,8,14] hc ?_ ?_|refine rC ?_ ?_<;>intro AA<;>try(cases AA;done))
 all_goals first|(exfalso;omega)|skip
 refine HP [0,2] hc rfl (by simp only[go_sem,Nat.reduceEqDiff,reduceCtorEq,Nat.reduceAdd,Nat.reduceSub,Nat.reduceMul,Nat.reduceLeDiff,Nat.reduceLT,Int.reduceLE,Int.reduceToNat,Int.reduceNeg,↓reduceIte,ByteArray.size,List.size_toArray,AO];rfl) ?_ ?_
 ·have hu:∀u:UInt8,((u.toNat:Nat):Int)≤255:=fun u=>by have:=u.toNat_lt;omega
  refine⟨⟨h0,by omega⟩,⟨h0,?_⟩,⟨?_,?_⟩,?_,?_⟩
  ·have h2:x<((256:Nat):Int):=h1
   exact h2
  ·exact Int.le_trans (by decide) (Int.natCast_nonneg _)
  ·exact Int.le_trans (hu _) (by decide)
  ·rw[Int.zero_add];exact Int.le_trans (by decide) (Int.natCast_nonneg _)
  ·rw[Int.zero_add];exact Int.le_trans (hu _) (by decide)
 ·repeat'(first|exact trivial|refine eS rfl ?_|refine AB ?_|refine rX [0,2,4,8,14] hc ?_ ?_|refine rC ?_ ?_<;>intro AA<;>try(cases AA;done))
  refine Am hc [.tmp 2] rfl (.inl rfl) (.p T3 _) (by simp only[RL,ZU,L0,RK,Gy,HI,GS,go_sem,Nat.reduceEqDiff,reduceCtorEq,Nat.reduceAdd,Nat.reduceSub,Nat.reduceMul,Nat.reduceLeDiff,Nat.reduceLT,Int.reduceLE,Int.reduceToNat,Int.reduceNeg,↓reduceIte];rfl) ⟨⟨_,rfl,fun h13=>?_⟩,rfl⟩
  rw[Int.zero_add]
  intro e
  replace e:=Int.ofNat.inj e
  have hk2:x.toNat<256:=by omega
  have hk3:13≤x.toNat:=by omega
  generalize x.toNat=k at *
  clear AA
  exact absurd e (by
   clear e
   revert hk3
   revert hk2
   revert k
   decide)
theorem A03 (x:Int) (h0:0≤x) (h1:x<256):B9 Tryz.prog 71 [.p (.int .u64) x] [] [] (fun res objs'=>(∃n:Int,res=.p T3 n∧(13≤x→n≠0))∧objs'=[]):=by
 refine Bw Tryz.func71 (by kernel_rfl) rfl Tryz.ntmps71 (by simp only[List.length_cons,List.length_nil];omega) (by kernel_rfl) rfl rfl (AF []) AH ?_
 intro w0 K O0 ρ0 hc hok1 hok2
 simp only[A1]
 repeat'(first|exact trivial|refine eS rfl ?_|refine AB ?_|refine rX [0,2] hc ?_ ?_|refine rC ?_ ?_<;>intro AA<;>try(cases AA;done))
 refine cP 1 hc ?_ ?_
 ·trivial
 ·refine rM hc (qN x h0 h1) [] [] ?_ ?_ ?_
  ·first|exact eN|refine eM ?_
  ·first|exact eN|refine eM ?_
  ·rintro _ _ ⟨⟨n,rfl,hnz⟩,rfl⟩
   refine⟨[],.p T3 n,[],rfl,rfl,?_,?_,rfl,rfl,?_⟩
   ·first|exact eN|refine eM ?_
   ·first|exact eN|refine eM ?_
   ·refine M8 [2] hc (by simp only[go_sem,Nat.reduceEqDiff,reduceCtorEq,Nat.reduceAdd,Nat.reduceSub,Nat.reduceMul,Nat.reduceLeDiff,Nat.reduceLT,Int.reduceLE,Int.reduceToNat,Int.reduceNeg,↓reduceIte];rfl) ?_ ?_
    ·trivial
    ·repeat'(first|exact trivial|refine eS rfl ?_|refine AB ?_|refine rX [0,2] hc ?_ ?_|refine rC ?_ ?_<;>intro AA<;>try(cases AA;done))
     exact Am hc [.tmp 2] rfl (.inl rfl) (.p T3 n) eT ⟨⟨_,rfl,hnz⟩,rfl⟩
end
/- Functions of graph: canonical's search. -/
section
open Go
end
/- Functions of graph: canonical, Sub. -/
section
open Go
end
/- Functions of restrict: part, at its three closures. -/
section
def qO (acc:Int→Int×Int→Bool) (f:List AL) (i:Nat):AL:=((f.getD i (0,[])).1,(f.getD i (0,[])).2.filter (acc (i:Int)))
def FI (acc:Int→Int×Int→Bool) (f:List AL) (i:Nat):List AL:=(List.range i).map (qO acc f)
def SX (acc:Int→Int×Int→Bool) (f:List AL):List AL:=CP (FI acc f f.length) 0
theorem IU (acc:Int→Int×Int→Bool) (f:List AL) (i:Nat):(FI acc f i).length=i:=by simp[FI]
theorem KQ (l:List (Int×Int)):lG l↔l.Pairwise (fun a b=>a.1<b.1):=by
 constructor
 ·intro h
  rw[List.pairwise_iff_getElem]
  have key:∀d i,i+d+1<l.length→(l.getD i (0,0)).1<(l.getD (i+d+1) (0,0)).1:=by
   intro d
   induction d with
   | zero=>intro i hi;exact h i hi
   | succ d ih =>
    intro i hi
    have h1:=ih i (by omega)
    have h2:=h (i+d+1) (by omega)
    have:i+(d+1)+1=i+d+1+1:=by omega
    rw[this]
    omega
  intro i j hi hj hij
  have h1:=key (j-i-1) i (by omega)
  rw[show i+(j-i-1)+1=j by omega]at h1
  simpa[List.getD_eq_getElem?_getD,hi,hj] using h1
 ·intro h i hi
  rw[List.pairwise_iff_getElem]at h
  have:=h i (i+1) (by omega) hi (by omega)
  simpa[List.getD_eq_getElem?_getD,hi,show i<l.length by omega] using this
theorem YO {l:List (Int×Int)} (h:lG l) (p:Int×Int→Bool):lG (l.filter p):=by
 rw[KQ]at h ⊢
 exact h.sublist List.filter_sublist
theorem Ud {f:List AL} (hf:BA f) (hs:FY f) (acc:Int→Int×Int→Bool):BA (FI acc f f.length)∧FY (FI acc f f.length):=by
 have hget:∀i,i<f.length→f.getD i (0,[])∈f:=fun i hi=>AE f (0,[]) hi
 refine⟨⟨by rw[IU];exact hf.1,fun x hx=>?_⟩,fun x hx=>?_⟩
 ·obtain⟨i,hi,rfl⟩:=List.mem_map.1 hx
  have hi:i<f.length:=List.mem_range.1 hi
  obtain⟨h1,h2⟩:=hf.2 _ (hget i hi)
  rw[IU]
  exact⟨Nat.le_trans (List.length_filter_le _ _) h1,fun a ha=>h2 a (List.mem_filter.1 ha).1⟩
 ·obtain⟨i,hi,rfl⟩:=List.mem_map.1 hx
  have hi:i<f.length:=List.mem_range.1 hi
  obtain⟨h1,h2⟩:=hs _ (hget i hi)
  exact⟨YO h1 _,Nat.le_trans (List.length_filter_le _ _) h2⟩
end
/- What a canonical feature structure is: its arcs ascend. -/
section
theorem IV {x y:Int} {xs ys:List Int} (h:I5 (x :: xs) (y :: ys)=0):x=y∧I5 xs ys=0:=by
 simp only[I5]at h
 split at h
 ·cases h
 ·split at h
  ·cases h
  ·exact⟨by omega,h⟩
theorem SY:∀ {l m:List (Int×Int)} {r s:List Int},l.length=m.length→I5 (l.flatMap (fun a=>[a.1,a.2])++r) (m.flatMap (fun a=>[a.1,a.2])++s)=0→l=m∧I5 r s=0
 | [],[],_,_,_,h=>⟨rfl,by simpa using h⟩
 | [],_ :: _,_,_,hl,_=>by simp at hl
 | _ :: _,[],_,_,hl,_=>by simp at hl
 | (a1,a2) :: l,(b1,b2) :: m,r,s,hl,h=>by
  have h:I5 (a1 :: a2 :: (l.flatMap (fun a=>[a.1,a.2])++r)) (b1 :: b2 :: (m.flatMap (fun a=>[a.1,a.2])++s))=0:=by simpa using h
  obtain⟨e1,h3⟩:=IV h
  obtain⟨e2,h4⟩:=IV h3
  obtain⟨e3,h5⟩:=SY (l:=l) (m:=m) (by simpa using hl) h4
  exact⟨by rw[e1,e2,e3],h5⟩
theorem SZ:∀ {l m:List AL} {r s:List Int},l.length=m.length→I5 (l.flatMap SN++r) (m.flatMap SN++s)=0→l=m∧I5 r s=0
 | [],[],_,_,_,h=>⟨rfl,by simpa using h⟩
 | [],_ :: _,_,_,hl,_=>by simp at hl
 | _ :: _,[],_,_,hl,_=>by simp at hl
 | (a1,a2) :: l,(b1,b2) :: m,r,s,hl,h=>by
  have h:I5 (a1 :: (a2.length:Int) :: (a2.flatMap (fun a=>[a.1,a.2])++(l.flatMap SN++r))) (b1 :: (b2.length:Int) :: (b2.flatMap (fun a=>[a.1,a.2])++(m.flatMap SN++s)))=0:=by simpa[SN] using h
  obtain⟨e1,h3⟩:=IV h
  obtain⟨e2,h4⟩:=IV h3
  obtain⟨e3,h5⟩:=SY (l:=a2) (m:=b2) (by omega) h4
  obtain⟨e4,h6⟩:=SZ (l:=l) (m:=m) (by simpa using hl) h5
  exact⟨by rw[e1,e3,e4],h6⟩
theorem KR {a b:List AL} (h:Cf a b=0):a=b:=by
 unfold Cf Bd at h
 obtain⟨h1,h2⟩:=IV h
 have:=SZ (l:=a) (m:=b) (r:=[]) (s:=[]) (by omega) (by simpa using h2)
 exact this.1
theorem Ue:∀l:List Int,I5 l l=0
 | []=>rfl
 | x :: l=>by simp[I5,Ue l]
theorem TS (a:List AL):Cf a a=0:=Ue _
/-! The sort ascends -/
theorem Uf (x:Int×Int) (s:List (Int×Int)):∀n,(∀j,JY x s n≤j→j<n→x.1<(s.getD j (0,0)).1)∧(0<JY x s n→(s.getD (JY x s n-1) (0,0)).1≤x.1)
 | 0=>⟨fun j h1 h2=>by omega,fun h=>by simp[JY]at h⟩
 | n+1=>by
  obtain⟨h1,h2⟩:=Uf x s n
  unfold JY
  split
  ·rename_i hc
   refine⟨fun j g1 g2=>?_,h2⟩
   by_cases e:j=n
   ·subst e;exact hc
   ·exact h1 j g1 (by omega)
  ·rename_i hc
   exact⟨fun j g1 g2=>by omega,fun _=>by simp only[Nat.add_sub_cancel];omega⟩
theorem A04 {l:List (Int×Int)} (h:l.Pairwise (fun a b=>a.1≤b.1)) {i j:Nat} (hij:i≤j) (hj:j<l.length):(l.getD i (0,0)).1≤(l.getD j (0,0)).1:=by
 rcases Nat.eq_or_lt_of_le hij with rfl|hlt
 ·exact Int.le_refl _
 ·rw[List.pairwise_iff_getElem]at h
  have:=h i j (by omega) hj hlt
  simpa[List.getD_eq_getElem?_getD,hj,show i<l.length by omega] using this
theorem YP {s:List (Int×Int)} (h:s.Pairwise (fun a b=>a.1≤b.1)) (x:Int×Int):(Oi s x).Pairwise (fun a b=>a.1≤b.1):=by
 obtain⟨h1,h2⟩:=Uf x s s.length
 have hp:=WC x s s.length
 unfold Oi
 generalize JY x s s.length=p at *
 rw[List.pairwise_append,List.pairwise_append]
 have hlow:∀a∈s.take p,a.1≤x.1:=fun a ha=>by
  obtain⟨i,hi,rfl⟩:=List.mem_iff_getElem.1 ha
  rw[List.length_take]at hi
  have h3:=A04 h (i:=i) (j:=p-1) (by omega) (by omega)
  have h4:=h2 (by omega)
  have e:(s.take p)[i].1=(s.getD i (0,0)).1:=by simp[List.getD_eq_getElem?_getD,show i<s.length by omega]
  rw[e]
  omega
 have hhigh:∀b∈s.drop p,x.1≤b.1:=fun b hb=>by
  obtain⟨i,hi,rfl⟩:=List.mem_iff_getElem.1 hb
  rw[List.length_drop]at hi
  have h3:=h1 (p+i) (by omega) (by omega)
  have e:(s.drop p)[i].1=(s.getD (p+i) (0,0)).1:=by simp[List.getD_eq_getElem?_getD,show p+i<s.length by omega]
  rw[e]
  omega
 refine⟨⟨h.sublist (List.take_sublist _ _),by simp,fun a ha b hb=>?_⟩,h.sublist (List.drop_sublist _ _),fun a ha b hb=>?_⟩
 ·have:b=x:=by simpa using hb
  rw[this]
  exact hlow a ha
 ·rcases List.mem_append.1 ha with ha|ha
  ·exact Int.le_trans (hlow a ha) (hhigh b hb)
  ·have:a=x:=by simpa using ha
   rw[this]
   exact hhigh b hb
theorem Sa (l:List (Int×Int)):(Av l).Pairwise (fun a b=>a.1≤b.1):=by
 induction l using TR with
 | h0=>exact List.Pairwise.nil
 | h1 l a ih=>rw[I6];exact YP ih a
theorem Pp {n:Int}:∀ {l seen:List (Int×Int)},NY n seen l=0→(l.map (·.1)).Nodup∧∀a∈l,∀b∈seen,b.1≠a.1
 | [],_,_=>⟨by simp,fun a ha=>by cases ha⟩
 | x :: l,seen,h=>by
  simp only[NY]at h
  split at h
  ·cases h
  ·split at h
   ·cases h
   ·rename_i h1 h2
    obtain⟨g1,g2⟩:=Pp h
    have h2:∀b∈seen,b.1≠x.1:=fun b hb e=>h2 (List.any_eq_true.2 ⟨b,hb,by simp[e]⟩)
    refine⟨?_,fun a ha b hb=>?_⟩
    ·rw[List.map_cons,List.nodup_cons]
     refine⟨fun hm=>?_,g1⟩
     obtain⟨a,ha,e⟩:=List.mem_map.1 hm
     exact g2 a ha x (by simp) e.symm
    ·rcases List.mem_cons.1 ha with rfl|ha
     ·exact h2 b hb
     ·exact g2 a ha b (by simp[hb])
theorem Sb {m:Int}:∀ {f:List AL},JR m f=0→∀x∈f,IQ x.2 m=0
 | [],_,x,hx=>by cases hx
 | y :: f,h,x,hx=>by
  simp only[JR]at h
  split at h
  ·cases h
  ·split at h
   ·rename_i h1 h2;exact absurd h h2
   ·rename_i h1 h2
    rcases List.mem_cons.1 hx with rfl|hx
    ·exact Classical.byContradiction h2
    ·exact Sb h x hx
theorem lJ {l:List (Int×Int)} (h:l.Pairwise (fun a b=>a.1≤b.1)) (hn:(l.map (·.1)).Nodup):l.Pairwise (fun a b=>a.1<b.1):=by
 rw[List.Nodup,List.pairwise_map]at hn
 refine(h.and hn).imp fun {a b} hab=>?_
 have h1:=hab.1
 have h2:¬a.1=b.1:=hab.2
 omega
theorem KS {f:List AL} (h:DR f=true):BA f∧FY f∧0<f.length∧F5 f=true:=by
 unfold DR at h
 simp only[Bool.and_eq_true,beq_iff_eq]at h
 obtain⟨⟨hl,_⟩,hc,he⟩:=h
 obtain⟨hl1,hl2⟩:=KO hl
 have hsa:WD f:=fun x hx=>Nat.le_trans (hl2 x hx) (by omega)
 have hform:Dz f=0:=by
  unfold CJ at hc
  split at hc
  ·assumption
  ·exact hc
 obtain⟨hg,h0⟩:=MO hform hsa
 have hcf:(CJ f).1=Lg f 0:=by unfold CJ;rw[if_pos hform]
 rw[hcf]at he
 have hfe:=KR he
 refine⟨hg,fun x hx=>⟨?_,Nat.le_trans (hl2 x hx) (by omega)⟩,h0,hl⟩
 rw[←hfe]at hx
 obtain⟨n,_,rfl⟩:=List.mem_map.1 hx
 rw[KQ]
 have harcs:((f.getD n.toNat (0,[])).2.map (·.1)).Nodup:=by
  by_cases hlt:n.toNat<f.length
  ·have hm:f.getD n.toNat (0,[])∈f:=AE f (0,[]) hlt
   have hfg:JR f.length f=0:=by
    unfold Dz at hform
    split at hform
    ·cases hform
    ·split at hform
     ·cases hform
     ·exact hform
   exact(Pp (Sb hfg _ hm)).1
  ·rw[List.getD_eq_getElem?_getD,List.getElem?_eq_none (by omega)]
   simp
 have hst:=lJ (Sa (f.getD n.toNat (0,[])).2) (((Nc _).map (·.1)).nodup_iff.2 harcs)
 unfold Lf
 simp only
 rw[List.pairwise_map]
 exact hst.imp fun hab=>hab
end
/- Plain: the breadth-first search of grammarlabref08.First. -/
section
abbrev Pq:=List (List Int)×List Bool×List Int
def CE (n:Int) (s:Pq) (a:Int×Int):Pq :=
 if s.2.1.getD a.2.toNat false=true then s else (s.1.set a.2.toNat (s.1.getD n.toNat []++[a.1]),s.2.1.set a.2.toNat true,s.2.2++[a.2])
def qP (f:List AL) (s:Pq) (n:Int):Pq:=(f.getD n.toNat (0,[])).2.foldl (CE n) s
def lK (f:List AL):Nat→Nat→Pq→Pq
 | 0,_,s=>s
 | k+1,i,s=>if i<s.2.2.length then lK f k (i+1) (qP f s (s.2.2.getD i 0)) else s
def Fu (m:Nat):Pq:=(List.replicate m [],(List.replicate m false).set 0 true,[0])
def A2 (f:List AL):List (List Int):=(lK f f.length 0 (Fu f.length)).1
def MQ (l:List Bool):Nat:=l.countP (fun b=>!b)
structure y7 (f:List AL) (s:Pq):Prop where
 l1:s.1.length=f.length
 l2:s.2.1.length=f.length
 cnt:s.2.2.length+MQ s.2.1≤f.length
 rng:∀x∈s.2.2,0≤x∧x<(f.length:Int)
 pl:∀p∈s.1,p.length≤s.2.2.length
theorem Sc {l:List Bool} {n:Nat} (hn:n<l.length) (h:l.getD n false=false):MQ (l.set n true)+1=MQ l:=by
 induction l generalizing n with
 | nil=>simp at hn
 | cons x r ih =>
  cases n with
  | zero =>
   have hx:x=false:=by simpa using h
   simp[MQ,List.countP_cons,hx]
  | succ n =>
   have h1:=ih (n:=n) (by simpa using hn) (by simpa using h)
   simp only[MQ,List.set_cons_succ,List.countP_cons]at h1 ⊢
   omega
theorem Sd {s:List (List Int)} {m:Nat} (h:∀p∈s,p.length≤m) (n:Nat):(s.getD n []).length≤m:=by
 by_cases hn:n<s.length
 ·rw[List.getD_eq_getElem?_getD,List.getElem?_eq_getElem hn]
  exact h _ (List.getElem_mem hn)
 ·rw[List.getD_eq_getElem?_getD,List.getElem?_eq_none (by omega)]
  simp
theorem iD {f:List AL} {s:Pq} (h:y7 f s) {n:Int} {a:Int×Int} (h0:0≤a.2) (h1:a.2<f.length):y7 f (CE n s a):=by
 unfold CE
 split
 ·exact h
 ·rename_i hc
  have hc:s.2.1.getD a.2.toNat false=false:=by simpa using hc
  have h2:=Sc (l:=s.2.1) (n:=a.2.toNat) (by rw[h.l2];omega) hc
  have hcn:=h.cnt
  refine⟨by simpa using h.l1,by simpa using h.l2,?_,fun x hx=>?_,fun p hp=>?_⟩
  ·simp only[List.length_append,List.length_singleton];omega
  ·rcases List.mem_append.1 hx with hx|hx
   ·exact h.rng x hx
   ·have:x=a.2:=by simpa using hx
    subst this;exact⟨h0,h1⟩
  ·simp only[List.length_append,List.length_singleton]
   rcases List.mem_or_eq_of_mem_set hp with hp|rfl
   ·exact Nat.le_succ_of_le (h.pl p hp)
   ·have:=Sd h.pl n.toNat
    simp only[List.length_append,List.length_singleton];omega
theorem iE {f:List AL} {n:Int}:∀ {l:List (Int×Int)} {s:Pq},(∀a∈l,0≤a.2∧a.2<(f.length:Int))→y7 f s→y7 f (l.foldl (CE n) s)
 | [],_,_,h=>h
 | a :: l,s,hl,h=>by
  have:=hl a (by simp)
  have h2:=iE (n:=n) (l:=l) (fun b hb=>hl b (by simp[hb])) (iD (n:=n) h this.1 this.2)
  exact h2
theorem I9 {f:List AL} (hf:BA f) {n:Int} {a:Int×Int} (ha:a∈(f.getD n.toNat (0,[])).2):0≤a.2∧a.2<f.length:=by
 by_cases h:n.toNat<f.length
 ·have hm:f.getD n.toNat (0,[])∈f:=by
   rw[List.getD_eq_getElem?_getD,List.getElem?_eq_getElem h];exact List.getElem_mem h
  exact(hf.2 _ hm).2 a ha
 ·rw[List.getD_eq_getElem?_getD,List.getElem?_eq_none (by omega)]at ha
  simp at ha
theorem iG {f:List AL} (h:0<f.length):y7 f (Fu f.length):=by
 refine⟨by simp[Fu],by simp[Fu],?_,fun x hx=>?_,fun p hp=>?_⟩
 ·have h2:=Sc (l:=List.replicate f.length false) (n:=0) (by simpa using h) (by simp[List.getD_eq_getElem?_getD,h])
  have h3:MQ (List.replicate f.length false)=f.length:=by simp[MQ,List.countP_replicate]
  simp only[Fu,List.length_singleton]
  omega
 ·have:x=0:=by simpa[Fu] using hx
  subst this;omega
 ·have:p=[]:=by
   have:=List.eq_of_mem_replicate (by simpa[Fu] using hp:p∈List.replicate f.length [])
   exact this
  subst this;simp
theorem qQ {n:Int} {s:Pq} {a:Int×Int} {i:Nat} (h:i<s.2.2.length):i<(CE n s a).2.2.length∧(CE n s a).2.2.getD i 0=s.2.2.getD i 0:=by
 unfold CE
 split
 ·exact⟨h,rfl⟩
 ·refine⟨by simp only[List.length_append];omega,?_⟩
  simp only[List.getD_eq_getElem?_getD]
  rw[List.getElem?_append_left h]
theorem Se {n:Int} {i:Nat}:∀ {l:List (Int×Int)} {s:Pq},i<s.2.2.length→i<(l.foldl (CE n) s).2.2.length∧(l.foldl (CE n) s).2.2.getD i 0=s.2.2.getD i 0
 | [],_,h=>⟨h,rfl⟩
 | a :: l,s,h=>by
  have h1:=qQ (n:=n) (a:=a) h
  have h2:=Se (n:=n) (l:=l) h1.1
  exact⟨h2.1,h2.2.trans h1.2⟩
theorem WF {f:List AL} {k i:Nat} {s:Pq} (h:s.2.2.length≤i):lK f k i s=s:=by
 cases k with
 | zero=>rfl
 | succ k=>simp only[lK];rw[if_neg (by omega)]
theorem YQ {f:List AL} {m i:Nat} {s:Pq} (h:i<s.2.2.length) (hm:s.2.2.length≤m):lK f (m-i) i s=lK f (m-(i+1)) (i+1) (qP f s (s.2.2.getD i 0)):=by
 obtain⟨k,hk⟩:∃k,m-i=k+1:=⟨m-i-1,by omega⟩
 have e:m-(i+1)=k:=by omega
 rw[hk,e]
 simp only[lK]
 rw[if_pos h]
end
/- Functions of path: Clone, firsts, First. -/
section
def WG:Ae:={ ins:=[Bz],pre:=fun(l,_)=>List.length l≤100000,out:=fun(l,_)=>[.own 3 T3 l] }
theorem qR:Ag Tryz.prog 102 WG:=by
 refine AR Tryz.func102 (by kernel_rfl) rfl Tryz.ntmps102 (by decide) (by kernel_rfl) (AF []) AH ?_
 rintro w0 O0 ⟨l,u⟩ hc-hl
 have hl:List.length l≤100000:=hl
 simp only[WG,AN]
 repeat'(first|exact trivial|refine eS rfl ?_|refine AB ?_|refine rX [0,2,4] hc ?_ ?_|refine rC ?_ ?_<;>intro AA<;>try(cases AA;done))
 refine cP 1 hc ?_ ?_
 ·trivial
 ·refine kI hc false rfl rfl ?_
  intro b hb
  refine rL [0,4] hc ?_ ?_
  ·trivial
  ·repeat'(first|exact trivial|refine eS rfl ?_|refine AB ?_|refine rX [0,2,4] hc ?_ ?_|refine rC ?_ ?_<;>intro AA<;>try(cases AA;done))
   ·have hl0:l=[]:=hb AA
    subst hl0
    refine Ev.ent (σ':=⟨[(2,.sr 5 T3 0 0)],[(5,.arr 3 T3 [])]⟩) ?_ (AC [(5,.nil)] rfl rfl ?_ ?_)
    ·exact Lv hc (.inl rfl) (rv:=.tmp 2) rfl (by simp only[JL,Gy,GT,go_sem,Nat.reduceEqDiff,reduceCtorEq,Nat.reduceAdd,Nat.reduceSub,Nat.reduceMul,Nat.reduceLeDiff,Nat.reduceLT,Int.reduceLE,Int.reduceToNat,Int.reduceNeg,↓reduceIte])
    ·first|exact eN|refine eM ?_
    ·first|exact eN|refine eM ?_
   ·simp only[AO];omega
   ·exact Lv hc (.inl rfl) (rv:=.tmp 2) rfl (by simp only[JL,Gy,GT,go_sem,Nat.reduceEqDiff,reduceCtorEq,Nat.reduceAdd,Nat.reduceSub,Nat.reduceMul,Nat.reduceLeDiff,Nat.reduceLT,Int.reduceLE,Int.reduceToNat,Int.reduceNeg,↓reduceIte])
/-! The plain law -/
def DS (f:List AL):Nat→Pq
 | 0=>Fu f.length
 | i+1=>qP f (DS f i) ((DS f i).2.2.getD i 0)
def D7 (f:List AL) (i:Nat):Int:=(DS f i).2.2.getD i 0
def iH (f:List AL) (i:Nat):List Int:=(DS f i).1.getD (D7 f i).toNat []
def MR (f:List AL):Nat→List (List Int)
 | 0=>List.replicate f.length []
 | i+1=>(MR f i).set (D7 f i).toNat (iH f i)
structure BI (f:List AL) (s:Pq):Prop where
 ok:y7 f s
 mem:∀x,x<f.length→(s.2.1.getD x false=true↔(x:Int)∈s.2.2)
 emp:∀x:Nat,(x:Int)∉s.2.2→s.1.getD x []=[]
theorem getD_set_ne {α:Type} (l:List α) (d v:α) {i j:Nat} (h:i≠j):(l.set i v).getD j d=l.getD j d:=by
 simp only[List.getD_eq_getElem?_getD];rw[List.getElem?_set_ne h]
theorem EY {α:Type} (l:List α) (d v:α) {i:Nat} (h:i<l.length):(l.set i v).getD i d=v:=by
 simp only[List.getD_eq_getElem?_getD];rw[List.getElem?_set_self h];rfl
theorem WH {f:List AL} {s:Pq} (h:BI f s) {n:Int} {a:Int×Int} (h0:0≤a.2) (h1:a.2<f.length) :
  BI f (CE n s a)∧s.2.2 <+: (CE n s a).2.2∧∀x∈s.2.2,(CE n s a).1.getD x.toNat []=s.1.getD x.toNat []:=by
 have hok:=iD (n:=n) h.ok h0 h1
 have hl1:=h.ok.l1
 have hl2:=h.ok.l2
 unfold CE at hok ⊢
 split at hok
 ·rename_i hc
  rw[if_pos hc]
  exact⟨h,List.prefix_refl _,fun _ _=>rfl⟩
 ·rename_i hc
  rw[if_neg hc]
  have hna:a.2∉s.2.2:=fun hm=>hc ((h.mem a.2.toNat (by omega)).2 (by rw[show ((a.2.toNat:Nat):Int)=a.2 by omega];exact hm))
  refine⟨⟨hok,fun x hx=>?_,fun x hx=>?_⟩,List.prefix_append _ _,fun x hx=>?_⟩
  ·by_cases e:a.2.toNat=x
   ·subst e
    simp only
    rw[EY _ _ _ (by omega)]
    constructor
    ·intro _;rw[show ((a.2.toNat:Nat):Int)=a.2 by omega];simp
    ·intro _;rfl
   ·simp only
    rw[getD_set_ne _ _ _ e,h.mem x hx]
    have:¬(x:Int)=a.2:=by omega
    simp[this]
  ·have hx1:(x:Int)∉s.2.2∧¬(x:Int)=a.2:=by simpa using hx
   simp only
   rw[getD_set_ne _ _ _ (by omega)]
   exact h.emp x hx1.1
  ·have hr:=h.ok.rng x hx
   have:¬a.2=x:=fun e=>hna (by rw[e];exact hx)
   simp only
   rw[getD_set_ne _ _ _ (by omega)]
theorem LF {f:List AL} {n:Int}:∀ {l:List (Int×Int)} {s:Pq},(∀a∈l,0≤a.2∧a.2<(f.length:Int))→BI f s →
  BI f (l.foldl (CE n) s)∧s.2.2 <+: (l.foldl (CE n) s).2.2∧∀x∈s.2.2,(l.foldl (CE n) s).1.getD x.toNat []=s.1.getD x.toNat []
 | [],_,_,h=>⟨h,List.prefix_refl _,fun _ _=>rfl⟩
 | a :: l,s,hl,h=>by
  have q:=hl a (by simp)
  obtain⟨g1,g2,g3⟩:=WH (n:=n) h q.1 q.2
  obtain⟨i1,i2,i3⟩:=LF (n:=n) (l:=l) (fun b hb=>hl b (by simp[hb])) g1
  exact⟨i1,g2.trans i2,fun x hx=>(i3 x (g2.subset hx)).trans (g3 x hx)⟩
theorem xO {f:List AL} (h:0<f.length):BI f (Fu f.length):=by
 refine⟨iG h,fun x hx=>?_,fun x _=>?_⟩
 ·by_cases e:x=0
  ·subst e
   simp only[Fu]
   rw[EY _ _ _ (by simpa using h)]
   simp
  ·simp only[Fu]
   rw[getD_set_ne _ _ _ (fun e'=>e e'.symm)]
   have:¬(x:Int)=0:=by omega
   simp[List.getD_eq_getElem?_getD,List.getElem?_replicate,hx,this,e]
 ·simp only[Fu,List.getD_eq_getElem?_getD,List.getElem?_replicate]
  split<;>rfl
theorem Hv {f:List AL} (hf:BA f) (h0:0<f.length):∀i,BI f (DS f i)
 | 0=>xO h0
 | i+1=>(LF (fun a ha=>I9 hf ha) (Hv hf h0 i)).1
theorem KT (f:List AL):∀i,(MR f i).length=f.length
 | 0=>by simp[MR]
 | i+1=>by simp[MR,KT f i]
theorem YR {f:List AL} (hf:BA f) (h0:0<f.length):∀i,(∀j,j<i→j<(DS f j).2.2.length)→∀x:Nat,(MR f i).getD x []=if (x:Int)∈(DS f i).2.2.take i then (DS f i).1.getD x [] else []
 | 0,_,x=>by
  simp only[MR,List.take_zero,List.not_mem_nil,if_false,List.getD_eq_getElem?_getD,List.getElem?_replicate]
  split<;>rfl
 | i+1,hj,x=>by
  have ih:=YR hf h0 i (fun j hji=>hj j (by omega)) x
  have hi:=hj i (by omega)
  have hbi:=Hv hf h0 i
  obtain⟨g1,g2,g3⟩:=LF (n:=D7 f i) (l:=(f.getD (D7 f i).toNat (0,[])).2) (fun a ha=>I9 hf ha) hbi
  have e1:DS f (i+1)=(f.getD (D7 f i).toNat (0,[])).2.foldl (CE (D7 f i)) (DS f i):=rfl
  rw[←e1]at g1 g2 g3
  have htk:(DS f (i+1)).2.2.take (i+1)=(DS f i).2.2.take i++[D7 f i]:=by
   obtain⟨t,ht⟩:=g2
   rw[←ht,List.take_append_of_le_length (by omega),Ab _ (0:Int) hi]
   rfl
  have hmem:D7 f i∈(DS f i).2.2:=AE _ 0 hi
  have hr:=hbi.ok.rng _ hmem
  rw[htk]
  simp only[MR]
  by_cases e:(D7 f i).toNat=x
  ·subst e
   rw[EY _ _ _ (by rw[KT];omega),show (((D7 f i).toNat:Nat):Int)=D7 f i by omega,if_pos (by simp),g3 _ hmem]
   rfl
  ·rw[getD_set_ne _ _ _ e,ih]
   have hne:¬(x:Int)=D7 f i:=by omega
   by_cases hx:(x:Int)∈(DS f i).2.2.take i
   ·rw[if_pos hx,if_pos (by simp[hx])]
    have:=g3 _ (List.mem_of_mem_take hx)
    rw[show ((x:Int)).toNat=x by omega]at this
    exact this.symm
   ·rw[if_neg hx,if_neg (by simp[hx,hne])]
theorem WJ {f:List AL} (hf:BA f) (h0:0<f.length):∀i,(∀j,j<i→j<(DS f j).2.2.length)→lK f (f.length-i) i (DS f i)=lK f f.length 0 (Fu f.length)
 | 0,_=>rfl
 | i+1,hj=>by
  rw[←WJ hf h0 i (fun j hji=>hj j (by omega))]
  have hb:=(Hv hf h0 i).ok
  have:=hb.cnt
  exact(YQ (hj i (by omega)) (by omega)).symm
theorem Sf {f:List AL} (hf:BA f) (h0:0<f.length) {n:Nat} (hj:∀j,j<n→j<(DS f j).2.2.length) (hn:(DS f n).2.2.length≤n):MR f n=A2 f:=by
 have e:A2 f=(DS f n).1:=by
  unfold A2
  rw[←WJ hf h0 n hj,WF hn]
 have hb:=Hv hf h0 n
 rw[e]
 apply List.ext_getElem
 ·rw[KT,hb.ok.l1]
 ·intro x h1 h2
  have hg:=YR hf h0 n hj x
  rw[List.take_of_length_le hn]at hg
  have e1:(MR f n).getD x []=(MR f n)[x]:=by simp[List.getD_eq_getElem?_getD,h1]
  have e2:(DS f n).1.getD x []=(DS f n).1[x]:=by simp[List.getD_eq_getElem?_getD,h2]
  rw[←e1,←e2,hg]
  split
  ·rfl
  ·rename_i hx;exact(hb.emp x hx).symm
end
/- Functions of path: firsts, First. -/
section
attribute [local go_sem] WG
theorem lL (f:List AL):B9 Tryz.prog 69 [.p HS f] [] [] (fun res objs'=>res=.clo 101 [1]∧objs'=[(1,.box 24 true [.p MZ f])]):=by
 refine Bw Tryz.func69 (by kernel_rfl) rfl Tryz.ntmps69 (by simp only[List.length_cons,List.length_nil];omega) (by kernel_rfl) rfl rfl (AF []) AH ?_
 intro w0 K O0 ρ0 hc hok1 hok2
 simp only[A1]
 repeat'(first|exact trivial|refine eS rfl ?_|refine AB ?_|refine rX [0,1,2] hc ?_ ?_|refine rC ?_ ?_<;>intro AA<;>try(cases AA;done))
 exact Am hc [.tmp 2] rfl (.inl rfl) (.clo 101 [1]) eT ⟨rfl,rfl⟩
def DY (f:List AL) (L:Go.Loop) (tm:Array Value) (i:Nat):List (Nat×Obj):=[(50,.box 24 true [.p MZ f]),(101,.loop L),(102,.frame tm [(3,.bp 3 [] 0)]),(3,.box 25 false [.sr 9 Bz 0 f.length]),(9,.arr 30 Bz (MR f i))]
def Dk (s:Pq):List (List Int):=s.2.2.map fun n=>s.1.getD n.toNat []
theorem KU (s:Pq):(Dk s).length=s.2.2.length:=by simp[Dk]
theorem Pr {s:Pq} {i:Nat} (h:i<s.2.2.length):(Dk s).getD i []=s.1.getD (s.2.2.getD i 0).toNat []:=by
 simp[Dk,List.getD_eq_getElem?_getD,h]
theorem aD (f:List AL) (hf:BA f) (h0:0<f.length) (L:Go.Loop) (tm:Array Value)
  (hY:∀i,i<(DS f i).2.2.length→XV Tryz.prog 101 [.p T3 (D7 f i),.p Bz (iH f i)] (DY f L tm i) [50,101,102,3] (fun res objs'=>res=.p .bool true∧objs'=DY f L tm (i+1))) :
  B9 Tryz.prog 101 [.yl 101,.bp 50 [] 0] (DY f L tm 0) [50,101,102,3] (fun res objs'=>res=.raw (.tuple #[])∧∃N,objs'=DY f L tm N∧MR f N=A2 f):=by
 refine Bw Tryz.func101 (by kernel_rfl) rfl Tryz.ntmps101 (by simp only[List.length_cons,List.length_nil];omega) (by kernel_rfl) rfl rfl (AF [(102,WG)]) (AD qR AH) ?_
 intro w0 K O0 ρ0 hc hok1 hok2
 simp only[A1,DY]
 have hfl:=hf.1
 repeat'(first|exact trivial|refine eS rfl ?_|refine AB ?_|refine rX [0,1,3,4,5,6,8,20,33,42,43,44,45,53] hc ?_ ?_|refine rC ?_ ?_<;>intro AA<;>try(cases AA;done))
 ·simp only[AO];omega
 ·exact eV
 ·have hbi:=fun i=>Hv hf h0 i
  have hy:=hY
  clear hY
  refine AK (ι:={i:Nat // ∀j,j<i→j<(DS f j).2.2.length}) (fun i=>⟨[(0,.yl 101),(1,.bp 50 [] 0),(3,.sr 12 T4 0 (DS f i.1).2.1.length),(4,.sr 15 T3 0 (DS f i.1).2.2.length),(5,.sr 16 Bz 0 (Dk (DS f i.1)).length),(6,.p (.int .i64) (i.1:Int))],(12,.arr 4 T4 (DS f i.1).2.1) :: (15,.arr 3 T3 (DS f i.1).2.2) :: (16,.arr 30 Bz (Dk (DS f i.1))) :: DY f L tm i.1⟩) (fun i=>f.length+1-i.1) ⟨0,fun j hj=>by omega⟩ (AC [(12,.nm 12),(15,.nm 15),(16,.nm 16),(50,.nm 50),(101,.nm 101),(102,.nm 102),(3,.nm 3),(9,.nm 9)] rfl rfl ?_ ?_) (fun i=>?_)
  ·simp only[DY,DS,Fu,Dk]
   first|exact eN|refine eM ?_
   simp[List.getD_eq_getElem?_getD,List.getElem?_replicate,h0]
  ·simp only[DS,Fu,Dk,List.length_map]
   first|exact eN|refine eM ?_
   simp
  ·obtain⟨i,hi⟩:=i
   have hib:i≤f.length:=by
    cases i with
    | zero=>omega
    | succ i =>
     have h1:=hi i (by omega)
     have h2:=(hbi i).ok.cnt
     omega
   have hb:=hbi i
   have hyi:=hy i
   have hnx:DS f (i+1)=(f.getD (D7 f i).toNat (0,[])).2.foldl (CE (D7 f i)) (DS f i):=rfl
   have hnode:D7 f i=(DS f i).2.2.getD i 0:=rfl
   have hpath:iH f i=(DS f i).1.getD (D7 f i).toNat []:=rfl
   generalize hs:DS f i=s at *
   have hpl:=KU s
   have hcn:=hb.ok.cnt
   simp only[DY]
   repeat'(first|exact trivial|refine eS rfl ?_|refine AB ?_|refine rX [0,1,3,4,5,6,8,20,33,42,43,44,45,53] hc ?_ ?_|refine rC ?_ ?_<;>intro AA<;>try(cases AA;done))
   ·have hil:i<s.2.2.length:=by exact eV
    refine cD 9 hc ?_ ?_
    ·exact⟨by exact eV,by rw[hpl];exact eV⟩
    ·rw[Pr hil,←hnode,←hpath]
     refine rY 101 101 hc (hyi hil) [(50,.nm 50),(101,.nm 101),(102,.nm 102),(3,.nm 3),(9,.nm 9)] [9] ?_ ?_ ?_
     ·first|exact eN|refine eM ?_
     ·simp only[DY]
      first|exact eN|refine eM ?_
     ·rintro _ _ ⟨rfl,rfl⟩
      refine⟨[(50,.nm 50),(101,.nm 101),(102,.nm 102),(3,.nm 3),(9,.nm 9)],.p .bool true,DY f L tm (i+1),rfl,rfl,?_,?_,rfl,rfl,?_⟩
      ·simp only[DY]
       first|exact eN|refine eM ?_
      ·first|exact eN|refine eM ?_
      ·simp only[DY]
       refine rL [0,1,3,4,5,6,33] hc ?_ ?_
       ·trivial
       ·have hnm:=AE s.2.2 0 hil
        have hnr:=hb.ok.rng _ hnm
        have hpre:=fun l=>Se (n:=D7 f i) (i:=i) (l:=l) (s:=s) hil
        have hLlen:=Gr hf (D7 f i)
        have hfold:=fun l (hl:∀a∈l,0≤a.2∧a.2<(f.length:Int))=>LF (n:=D7 f i) (l:=l) hl hb
        have hLin:=fun a (ha:a∈(f.getD (D7 f i).toNat (0,[])).2)=>I9 hf ha
        rw[hnode]at hnx hpre hLlen hfold hLin
        generalize hnn:s.2.2.getD i 0=n at *
        repeat'(first|exact trivial|refine eS rfl ?_|refine AB ?_|refine rX [0,1,3,4,5,6,8,20,33,42,43,44,45,53] hc ?_ ?_|refine rC ?_ ?_<;>intro AA<;>try(cases AA;done))
        ·exact⟨by exact eV,by rw[hnn];exact hnr⟩
        ·simp only[hnn]
         generalize hL2:(f.getD n.toNat (0,[])).2=L2 at *
         have hpl:=KU s
         refine AK (ι:={k:Nat//k≤L2.length}) (fun k=>⟨[(0,.yl 101),(1,.bp 50 [] 0),(3,.sr 12 T4 0 ((L2.take k.1).foldl (CE n) s).2.1.length),(4,.sr 15 T3 0 ((L2.take k.1).foldl (CE n) s).2.2.length),(5,.sr 16 Bz 0 (Dk ((L2.take k.1).foldl (CE n) s)).length),(6,.p (.int .i64) (i:Int)),(42,.p Vg L2),(43,.p (.int .i64) (L2.length:Int)),(44,.p (.int .i64) (k.1:Int))],(12,.arr 4 T4 ((L2.take k.1).foldl (CE n) s).2.1) :: (15,.arr 3 T3 ((L2.take k.1).foldl (CE n) s).2.2) :: (16,.arr 30 Bz (Dk ((L2.take k.1).foldl (CE n) s))) :: DY f L tm (i+1)⟩) (fun k=>L2.length-k.1) ⟨0,by omega⟩ (AC [(12,.nm 12),(15,.nm 15),(16,.nm 16),(50,.nm 50),(101,.nm 101),(102,.nm 102),(3,.nm 3),(9,.nm 9)] rfl rfl ?_ ?_) (fun k=>?_)
         ·simp only[DY,List.take_zero,List.foldl_nil]
          first|exact eN|refine eM ?_
         ·simp only[List.take_zero,List.foldl_nil]
          first|exact eN|refine eM ?_
         ·obtain⟨k,hk⟩:=k
          obtain⟨hbk,hpk2,hok2⟩:=hfold (L2.take k) (fun a ha=>hLin a (List.mem_of_mem_take ha))
          have hpk:=hpre (L2.take k)
          have hnext:=fun(h:k<L2.length)=>Ol (CE n) L2 (0,0) s h
          simp only
          generalize hsk:(L2.take k).foldl (CE n) s=sk at *
          have hplk:=KU sk
          have hcnk:=hbk.ok.cnt
          have hto:∀(h:k<L2.length),0≤(L2.getD k (0,0)).2∧(L2.getD k (0,0)).2<(sk.2.1.length:Int):=fun h=>by
           have h1:=hLin _ (AE L2 (0,0) h)
           have h2:=hbk.ok.l2
           omega
          simp only[DY]
          repeat'(first|exact trivial|refine eS rfl ?_|refine AB ?_|refine rX [0,1,3,4,5,6,8,20,33,42,43,44,45,53] hc ?_ ?_|refine rC ?_ ?_<;>intro AA<;>try(cases AA;done))
          ·exact eV
          ·exact hto (by exact eV)
          ·exact hto (by exact eV)
          ·simp only[AO];omega
          ·have hkL:k<L2.length:=by exact eV
           have hst:(L2.take (k+1)).foldl (CE n) s=(sk.1.set (L2.getD k (0,0)).2.toNat (sk.1.getD n.toNat []++[(L2.getD k (0,0)).1]),sk.2.1.set (L2.getD k (0,0)).2.toNat true,sk.2.2++[(L2.getD k (0,0)).2]):=by
            rw[hnext hkL]
            unfold CE
            rw[if_neg (by rw[AA];simp)]
           have hna:(L2.getD k (0,0)).2∉sk.2.2:=fun hm=>by
            have h1:=hto hkL
            have h2:=hbk.ok.l2
            have h3:=(hbk.mem (L2.getD k (0,0)).2.toNat (by omega)).2 (by rw[show (((L2.getD k (0,0)).2.toNat:Nat):Int)=(L2.getD k (0,0)).2 by omega];exact hm)
            rw[AA]at h3
            cases h3
           have hget:(Dk sk).getD i []=sk.1.getD n.toNat []:=by
            rw[Pr hpk.1,hpk.2]
           have hgl:=Sd hbk.ok.pl n.toNat
           have hps:Dk ((L2.take (k+1)).foldl (CE n) s)=Dk sk++[sk.1.getD n.toNat []++[(L2.getD k (0,0)).1]]:=by
            rw[hst]
            unfold Dk
            simp only[List.map_append,List.map_cons,List.map_nil]
            congr 1
            ·refine List.map_congr_left fun x hx=>?_
             have h1:=hbk.ok.rng x hx
             have h2:¬(L2.getD k (0,0)).2=x:=fun e=>hna (by rw[e];exact hx)
             have h3:=hto hkL
             rw[getD_set_ne _ _ _ (by omega)]
            ·have h1:=hto hkL
             have h2:=hbk.ok.l2
             have h3:=hbk.ok.l1
             rw[EY _ _ _ (by omega)]
           refine Df drawsAny hc 12 [([1,2,3,4,5,6,7,8],9),([],10),([0],11)] [] (by kernel_rfl) (TF ?_ ?_)
           ·rw[hget,hplk]
            exact⟨Int.ofNat_lt.2 hpk.1,Nat.le_trans hgl (by omega)⟩
           ·refine TG hc [68] ?_ ?_
            ·rw[hget]
             simp only[AO];omega
            ·refine TF ?_ ?_
             ·trivial
             ·refine TG hc [68] ?_ ?_
              ·trivial
              ·refine TF ?_ ?_
               ·trivial
               ·refine TG hc [16] ?_ ?_
                ·simp only[AO];omega
                ·refine WY [0,1,3,4,5,6,8,20,33,42,43,44,45,53] hc ?_ ?_ ?_
                 ·trivial
                 ·trivial
                 ·repeat'(first|exact trivial|refine eS rfl ?_|refine AB ?_|refine rX [0,1,3,4,5,6,8,20,33,42,43,44,45,53] hc ?_ ?_|refine rC ?_ ?_<;>intro AA<;>try(cases AA;done))
                  ·exact eV
                  ·refine⟨⟨k+1,by omega⟩,by simp only;omega,AC [(12,.nm 12),(15,.nm 15),(16,.nm 16),(50,.nm 50),(101,.nm 101),(102,.nm 102),(3,.nm 3),(9,.nm 9)] rfl rfl ?_ ?_⟩
                   ·simp only[hps]
                    rw[hst]
                    first|exact eN|refine eM ?_
                    rw[hget]
                   ·simp only[hps]
                    rw[hst]
                    first|exact eN|refine eM ?_
                    simp
          ·exact eV
          ·have hkL:k<L2.length:=by exact eV
           have hst:(L2.take (k+1)).foldl (CE n) s=sk:=by
            rw[hnext hkL]
            unfold CE
            rw[if_pos (by rw[AA])]
           refine⟨⟨k+1,by omega⟩,by simp only;omega,AC [(12,.nm 12),(15,.nm 15),(16,.nm 16),(50,.nm 50),(101,.nm 101),(102,.nm 102),(3,.nm 3),(9,.nm 9)] rfl rfl ?_ ?_⟩
           ·simp only
            rw[hst]
            first|exact eN|refine eM ?_
           ·simp only
            rw[hst]
            first|exact eN|refine eM ?_
          ·exact eV
          ·have hkL:L2.take k=L2:=List.take_of_length_le (by exact eV)
           rw[hkL]at hsk
           rw[hsk]at hnx
           have hil2:i<(DS f i).2.2.length:=by rw[hs];exact hil
           refine⟨⟨i+1,fun j hj=>(Nat.lt_succ_iff_lt_or_eq.1 hj).elim (hi j) (fun e=>by rw[e];exact hil2)⟩,by simp only;omega,AC [(12,.nm 12),(15,.nm 15),(16,.nm 16),(50,.nm 50),(101,.nm 101),(102,.nm 102),(3,.nm 3),(9,.nm 9)] rfl rfl ?_ ?_⟩
           ·simp only[hnx,DY]
            first|exact eN|refine eM ?_
           ·simp only[hnx]
            first|exact eN|refine eM ?_
   ·refine Ev.ent (σ':=⟨[],DY f L tm i⟩) ?_ (AC [(50,.nm 50),(101,.nm 101),(102,.nm 102),(3,.nm 3),(9,.nm 9)] rfl rfl ?_ ?_)
    ·exact Am hc [] rfl (.inr rfl) (.raw (.tuple #[])) rfl ⟨rfl,i,rfl,Sf hf h0 hi (by rw[hs];exact eV)⟩
    ·simp only[DY]
     first|exact eN|refine eM ?_
    ·first|exact eN|refine eM ?_
theorem lM (f:List AL) (hf:BA f) (h0:0<f.length):B9 Tryz.prog 41 [.p HS f] [] [] (fun res objs'=>res=.sr 9 Bz 0 f.length∧objs'=[(9,.arr 30 Bz (A2 f))]):=by
 refine uH Tryz.func41 (by kernel_rfl) rfl Tryz.ntmps41 (by simp only[List.length_cons,List.length_nil];omega) (by kernel_rfl) rfl rfl (AF []) AH ?_
 intro w0 K O0 ρ0 hc hok1 hok2
 simp only[A1]
 have hfl:=hf.1
 repeat'(first|exact trivial|refine eS rfl ?_|refine AB ?_|refine rX [0,1,2,3,4,5,11,12,13] hc ?_ ?_|refine rC ?_ ?_<;>intro AA<;>try(cases AA;done))
 ·simp only[AO];omega
 ·refine cP 1 hc ?_ ?_
  ·trivial
  ·refine rM hc (lL f) [] [] ?_ ?_ ?_
   ·first|exact eN|refine eM ?_
   ·first|exact eN|refine eM ?_
   ·rintro _ _ ⟨rfl,rfl⟩
    refine⟨[(50,.nm 1)],.clo 101 [50],[(50,.box 24 true [.p MZ f])],rfl,rfl,?_,?_,rfl,rfl,CU ?_⟩
    ·first|exact eN|refine eM ?_
    ·first|exact eN|refine eM ?_
    ·repeat'(first|exact trivial|refine eS rfl ?_|refine AB ?_|refine rX [0,1,2,3,4,5,11,12,13] hc ?_ ?_|refine rC ?_ ?_<;>intro AA<;>try(cases AA;done))
     refine oQ hc rfl rfl (by simp only[go_sem,Nat.reduceEqDiff,reduceCtorEq,Nat.reduceAdd,Nat.reduceSub,Nat.reduceMul,Nat.reduceLeDiff,Nat.reduceLT,Int.reduceLE,Int.reduceToNat,Int.reduceNeg,↓reduceIte];rfl) 101 103 102 rfl rfl rfl rfl ?_
     intro L tm hL1 hL2 hL3 hL4 hL5 hL6 htm
     refine⟨_,DY f L tm 0,[50,101,102,3],_,[(50,.nm 50),(101,.nm 101),(102,.nm 102),(3,.nm 3),(9,.nm 9)],[9],aD f hf h0 L tm ?_,rfl,rfl,?_,?_,rfl,?_⟩
     ·intro i hi
      have hb:=Hv hf h0 i
      have hnr:=hb.ok.rng (D7 f i) (AE _ 0 hi)
      have hcl:=KT f i
      have hcs:MR f (i+1)=(MR f i).set (D7 f i).toNat (iH f i):=rfl
      refine oP (fr:=102) rfl rfl hL1 hL4 hL5 hL6 hL3 htm rfl (by kernel_rfl) (by simp) rfl rfl (by kernel_rfl) (by kernel_rfl) (AF []) AH ?_
      intro w1 K1 O1 ρ1 lb hc hok3 hok4 hb
      simp only[DY,Gc]
      repeat'(first|exact trivial|refine eS rfl ?_|refine AB ?_|refine rX [0,1,2,3,4,5,11,12,13] hc ?_ ?_|refine rC ?_ ?_<;>intro AA<;>try(cases AA;done))
      refine⟨rfl,?_⟩
      repeat'(first|exact trivial|refine eS rfl ?_|refine AB ?_|refine rX [0,1,2,3,4,5,11,12,13] hc ?_ ?_|refine rC ?_ ?_<;>intro AA<;>try(cases AA;done))
      ·exact hnr
      ·refine Ev.ent (σ':=⟨[],[(50,.box 24 true [.p MZ f]),(101,.loop { L with state:=.busy }),(102,.frame tm [(3,.bp 3 [] 0)]),(3,.box 25 false [.sr 9 Bz 0 f.length]),(9,.arr 30 Bz (MR f (i+1)))]⟩) ?_ (AC [(50,.nm 50),(101,.nm 101),(102,.nm 102),(3,.nm 3),(9,.nm 9)] rfl rfl ?_ ?_)
       ·refine j7 hc (yn:=101) rfl rfl (by simp) hb ⟨rfl,?_⟩
        simp only[DY,go_sem,Nat.reduceEqDiff,reduceCtorEq,Nat.reduceAdd,Nat.reduceSub,Nat.reduceMul,Nat.reduceLeDiff,Nat.reduceLT,Int.reduceLE,Int.reduceToNat,Int.reduceNeg,↓reduceIte,qM hL1 hL2]
       ·rw[hcs]
        first|exact eN|refine eM ?_
       ·first|exact eN|refine eM ?_
     ·simp only[Be]
      first|exact eN|refine eM ?_
     ·simp only[Be,DY]
      first|exact eN|refine eM ?_
      rfl
     ·rintro _ _ ⟨rfl,N,rfl,hN⟩
      refine⟨[(50,.nm 50),(101,.nm 101),(102,.nm 102),(3,.nm 3),(9,.nm 9)],DY f L tm N,L,rfl,rfl,?_,rfl,rfl,rfl,by rw[hL1];rfl,?_⟩
      ·simp only[DY]
       first|exact eN|refine eM ?_
      ·intro b
       rw[hL2]
       simp only[EvJ,DY,Be,go_sem,Nat.reduceEqDiff,reduceCtorEq,Nat.reduceAdd,Nat.reduceSub,Nat.reduceMul,Nat.reduceLeDiff,Nat.reduceLT,Int.reduceLE,Int.reduceToNat,Int.reduceNeg,↓reduceIte]
       replace hc:=j8 (dn:=103) (b:=b) hc
       rw[hN]
       repeat'(first|exact trivial|refine eS rfl ?_|refine AB ?_|refine rX [0,1,2,3,4,5,11,12,13] hc ?_ ?_|refine rC ?_ ?_<;>intro AA<;>try(cases AA;done))
       refine Ev.ent (σ':=⟨[(2,.sr 9 Bz 0 f.length)],[(9,.arr 30 Bz (A2 f)),(103,.dfr)]⟩) ?_ (AC [(9,.nm 9),(103,.nm 103)] rfl rfl ?_ ?_)
       ·exact oU hc [.tmp 2] rfl (.inl rfl) rfl rfl (.sr 9 Bz 0 f.length) eT ⟨rfl,by simp only[go_sem,Nat.reduceEqDiff,reduceCtorEq,Nat.reduceAdd,Nat.reduceSub,Nat.reduceMul,Nat.reduceLeDiff,Nat.reduceLT,Int.reduceLE,Int.reduceToNat,Int.reduceNeg,↓reduceIte]⟩
       ·first|exact eN|refine eM ?_
       ·first|exact eN|refine eM ?_
end
/- Functions of restrict: Depth. -/
section
theorem JA {f:List AL} (hf:BA f) (h0:0<f.length):(A2 f).length=f.length:=by
 obtain⟨n,hj,hn⟩:∃n,(∀j,j<n→j<(DS f j).2.2.length)∧(DS f n).2.2.length≤n:=by
  have key:∀m n,m+n=f.length+1→(∀j,j<n→j<(DS f j).2.2.length)→∃n,(∀j,j<n→j<(DS f j).2.2.length)∧(DS f n).2.2.length≤n:=by
   intro m
   induction m with
   | zero =>
    intro n hn hj
    have h1:=hj f.length (by omega)
    have h2:=(Hv hf h0 f.length).ok.cnt
    omega
   | succ m ih =>
    intro n hn hj
    by_cases h:(DS f n).2.2.length≤n
    ·exact⟨n,hj,h⟩
    ·exact ih (n+1) (by omega) fun j hj'=>(Nat.lt_succ_iff_lt_or_eq.1 hj').elim (hj j) (fun e=>by rw[e];omega)
  exact key (f.length+1) 0 (by omega) (fun j hj=>by omega)
 rw[←Sf hf h0 hj hn,KT]
end
/- Functions of restrict: Keep. -/
section
def sZ (l:List (Int×Int)) (x:Int):Int:=l.foldl (fun t a=>if a.1=x then a.2 else t) (-1)
end
/- Functions of grammarlablaw15: exampleHolds. -/
section
attribute [local go_sem] Oh
end
/- The plain laws under RestrictWhole: the first paths lead to their nodes and are shorter than the nodes are many; all nodes of a canonical feature structure are come to. -/
section
abbrev Bk (f:List AL) (n:Int):List (Int×Int):=(f.getD n.toNat (0,[])).2
def FJ (f:List AL):Int→List Int→Option Int
 | n,[]=>some n
 | n,x :: r=>if sZ (Bk f n) x<0 then none else FJ f (sZ (Bk f n) x) r
theorem MS (f:List AL):∀(p:List Int) (n m x:Int),FJ f n p=some m→FJ f n (p++[x])=if sZ (Bk f m) x<0 then none else some (sZ (Bk f m) x)
 | [],n,m,x,h=>by
  simp only[FJ,Option.some.injEq]at h
  subst h
  rfl
 | y :: p,n,m,x,h=>by
  simp only[FJ,List.cons_append]at h ⊢
  split at h
  ·cases h
  ·rename_i hc
   rw[if_neg hc]
   exact MS f p _ m x h
theorem xP {l:List (Int×Int)} (h:l.Pairwise (fun a b=>a.1<b.1)) {a:Int×Int} (ha:a∈l):sZ l a.1=a.2:=by
 have keep:∀(l:List (Int×Int)) (t:Int),(∀b∈l,¬b.1=a.1)→l.foldl (fun t b=>if b.1=a.1 then b.2 else t) t=t:=by
  intro l
  induction l with
  | nil=>intro t _;rfl
  | cons b l ih =>
   intro t hl
   rw[List.foldl_cons,if_neg (hl b (by simp))]
   exact ih t (fun c hc=>hl c (by simp[hc]))
 obtain⟨l1,l2,rfl⟩:=List.append_of_mem ha
 rw[List.pairwise_append,List.pairwise_cons]at h
 obtain⟨-,⟨h2,-⟩,-⟩:=h
 unfold sZ
 rw[List.foldl_append,List.foldl_cons,if_pos rfl]
 exact keep l2 _ (fun b hb e=>by have:=h2 b hb;omega)
structure WI (f:List AL) (s:Pq):Prop where
 walk:∀x∈s.2.2,FJ f 0 (s.1.getD x.toNat [])=some x
 len:∀p∈s.1,p.length<s.2.2.length
theorem xQ {f:List AL} (hs:FY f) {s:Pq} (h:BI f s) (hw:WI f s) {n:Int} (hn:n∈s.2.2) {a:Int×Int} (ha:a∈Bk f n) (h0:0≤a.2) (h1:a.2<f.length):WI f (CE n s a):=by
 obtain⟨-,-,g3⟩:=WH (n:=n) h h0 h1
 have hl1:=h.ok.l1
 unfold CE at g3 ⊢
 split at g3
 ·rename_i hc
  rw[if_pos hc]
  exact hw
 ·rename_i hc
  rw[if_neg hc]
  have hto:=xP ((KQ _).1 (aC hs n).1) ha
  refine⟨fun x hx=>?_,fun p hp=>?_⟩
  ·simp only at g3 hx ⊢
   by_cases hxo:x∈s.2.2
   ·rw[g3 x hxo]
    exact hw.walk x hxo
   ·have hxa:x=a.2:=by
     rcases List.mem_append.1 hx with hx|hx
     ·exact absurd hx hxo
     ·simpa using hx
    subst hxa
    rw[EY _ _ _ (by omega),MS f _ 0 n a.1 (hw.walk n hn),hto,if_neg (by omega)]
  ·simp only at hp ⊢
   rw[List.length_append,List.length_singleton]
   rcases List.mem_or_eq_of_mem_set hp with hp|rfl
   ·have:=hw.len p hp
    omega
   ·rw[List.length_append,List.length_singleton]
    have h2:=h.ok.rng n hn
    have h3:s.1.getD n.toNat []∈s.1:=AE s.1 [] (by omega)
    have:=hw.len _ h3
    omega
theorem iI {f:List AL} (hf:BA f) (hs:FY f) {n:Int}:∀ {l:List (Int×Int)} {s:Pq},(∀a∈l,a∈Bk f n)→BI f s→WI f s→n∈s.2.2 →
  WI f (l.foldl (CE n) s)∧∀a∈l,a.2∈(l.foldl (CE n) s).2.2
 | [],_,_,_,h,_=>⟨h,fun a ha=>by cases ha⟩
 | a :: l,s,hl,hb,h,hn=>by
  have q:=I9 hf (hl a (by simp))
  obtain⟨g1,g2,_⟩:=WH (n:=n) hb q.1 q.2
  obtain⟨i1,i2⟩:=iI hf hs (n:=n) (l:=l) (fun b hb=>hl b (by simp[hb])) g1 (xQ hs hb h hn (hl a (by simp)) q.1 q.2) (g2.subset hn)
  obtain⟨_,j2,_⟩:=LF (n:=n) (l:=l) (fun b hb=>I9 hf (hl b (by simp[hb]))) g1
  refine⟨i1,fun b hb'=>?_⟩
  rcases List.mem_cons.1 hb' with rfl|hb'
  ·refine j2.subset ?_
   unfold CE
   split
   ·rename_i hc
    have:=(hb.mem b.2.toNat (by omega)).1 hc
    rwa [show ((b.2.toNat:Nat):Int)=b.2 by omega]at this
   ·simp
  ·exact i2 b hb'
theorem qS {f:List AL} (hf:BA f) (hs:FY f) (h0:0<f.length):∀i,(∀j,j<i→j<(DS f j).2.2.length)→WI f (DS f i)∧(0:Int)∈(DS f i).2.2 ∧
  ∀j,j<i→∀a∈Bk f ((DS f i).2.2.getD j 0),a.2∈(DS f i).2.2
 | 0,_=>by
  refine⟨⟨fun x hx=>?_,fun p hp=>?_⟩,by simp[DS,Fu],fun j hj=>by omega⟩
  ·have:x=0:=by simpa[DS,Fu] using hx
   subst this
   simp only[DS,Fu,List.getD_eq_getElem?_getD,List.getElem?_replicate]
   split<;>rfl
  ·have:p=[]:=List.eq_of_mem_replicate (by simpa[DS,Fu] using hp:p∈List.replicate f.length [])
   subst this
   simp[DS,Fu]
 | i+1,hj=>by
  obtain⟨g1,g2,g3⟩:=qS hf hs h0 i (fun j hji=>hj j (by omega))
  have hb:=Hv hf h0 i
  have hi:=hj i (by omega)
  have hn:(DS f i).2.2.getD i 0∈(DS f i).2.2:=AE _ 0 hi
  obtain⟨k1,k2⟩:=iI hf hs (n:=(DS f i).2.2.getD i 0) (l:=Bk f ((DS f i).2.2.getD i 0)) (fun a ha=>ha) hb g1 hn
  obtain⟨_,j2,_⟩:=LF (n:=(DS f i).2.2.getD i 0) (l:=Bk f ((DS f i).2.2.getD i 0)) (fun a ha=>I9 hf ha) hb
  have e:DS f (i+1)=(Bk f ((DS f i).2.2.getD i 0)).foldl (CE ((DS f i).2.2.getD i 0)) (DS f i):=rfl
  rw[e]
  refine⟨k1,j2.subset g2,fun j hji a ha=>?_⟩
  have hjl:j<(DS f i).2.2.length:=by omega
  have hget:((Bk f ((DS f i).2.2.getD i 0)).foldl (CE ((DS f i).2.2.getD i 0)) (DS f i)).2.2.getD j 0=(DS f i).2.2.getD j 0:=by
   obtain⟨t,ht⟩:=j2
   rw[←ht]
   simp only[List.getD_eq_getElem?_getD]
   rw[List.getElem?_append_left hjl]
  rw[hget]at ha
  by_cases hji':j=i
  ·subst hji'
   exact k2 a ha
  ·exact j2.subset (g3 j (by omega) a ha)
theorem Ug {f:List AL} (hf:BA f) (hs:FY f) (h0:0<f.length):∃C:List Int,(0:Int)∈C∧(∀x∈C,∀a∈Bk f x,a.2∈C)∧(∀x∈C,FJ f 0 ((A2 f).getD x.toNat [])=some x)∧∀p∈A2 f,p.length<f.length:=by
 obtain⟨n,hj,hn⟩:∃n,(∀j,j<n→j<(DS f j).2.2.length)∧(DS f n).2.2.length≤n:=by
  have key:∀m n,m+n=f.length+1→(∀j,j<n→j<(DS f j).2.2.length)→∃n,(∀j,j<n→j<(DS f j).2.2.length)∧(DS f n).2.2.length≤n:=by
   intro m
   induction m with
   | zero =>
    intro n hn hj
    have h1:=hj f.length (by omega)
    have h2:=(Hv hf h0 f.length).ok.cnt
    omega
   | succ m ih =>
    intro n hn hj
    by_cases h:(DS f n).2.2.length≤n
    ·exact⟨n,hj,h⟩
    ·exact ih (n+1) (by omega) fun j hj'=>(Nat.lt_succ_iff_lt_or_eq.1 hj').elim (hj j) (fun e=>by rw[e];omega)
  exact key (f.length+1) 0 (by omega) (fun j hj=>by omega)
 have e:A2 f=(DS f n).1:=by
  unfold A2
  rw[←WJ hf h0 n hj,WF hn]
 obtain⟨g1,g2,g3⟩:=qS hf hs h0 n hj
 have hc:=(Hv hf h0 n).ok.cnt
 refine⟨(DS f n).2.2,g2,fun x hx a ha=>?_,fun x hx=>by rw[e];exact g1.walk x hx,fun p hp=>?_⟩
 ·obtain⟨j,hj',rfl⟩:=List.mem_iff_getElem.1 hx
  have:(DS f n).2.2[j]=(DS f n).2.2.getD j 0:=by simp[List.getD_eq_getElem?_getD,hj']
  rw[this]at ha
  exact g3 j (by omega) a ha
 ·rw[e]at hp
  have:=g1.len p hp
  omega
theorem Lh {f:List AL} (h:DR f=true):CP f 0=f:=by
 obtain⟨hg,hs,h0,_⟩:=KS h
 unfold DR at h
 simp only[Bool.and_eq_true,beq_iff_eq]at h
 obtain⟨_,hc,he⟩:=h
 have hcf:(CJ f).1=Lg f 0:=by
  unfold CJ at hc ⊢
  split at hc
  ·rename_i hh;rw[if_pos hh]
  ·rename_i hh;exact absurd hc hh
 rw[hcf]at he
 rw[←SW hg hs (by omega) (by omega)]
 exact KR he
/-! The parts -/
theorem aE {acc:Int→Int×Int→Bool} {f:List AL} (h:∀i,i<f.length→∀a∈(f.getD i (0,[])).2,acc (i:Int) a=true):FI acc f f.length=f:=by
 apply List.ext_getElem
 ·exact IU _ _ _
 ·intro i h1 h2
  have e:f.getD i (0,[])=f[i]:=by simp[List.getD_eq_getElem?_getD,h2]
  have:=h i h2
  simp only[FI,List.getElem_map,List.getElem_range,qO]
  rw[List.filter_eq_self.2 this,e]
theorem aF {acc:Int→Int×Int→Bool} {f:List AL} (hc:DR f=true) (h:∀i,i<f.length→∀a∈(f.getD i (0,[])).2,acc (i:Int) a=true):SX acc f=f:=by
 unfold SX
 rw[aE h]
 exact Lh hc
/-! Keep all paths -/
end
/- Plain: structures that differ in their nodes' names alone have one canonical form; a part of a part is a part. -/
section
theorem Qg (f:List AL):SU f []:=⟨by simp,fun x hx=>by cases hx⟩
/-! Nodes come to -/
structure Ord (f:List AL) (o:List Int):Prop where
 ok:SU f o
 zero:o.getD 0 0=0∧0<o.length
 cl:∀n∈o,∀a∈Bk f n,a.2∈o
theorem qT {f:List AL} (hf:BA f) (h0:0<f.length):[0] <+: KP f f.length [] 0:=by
 obtain⟨k,hk⟩:∃k,f.length=k+1:=⟨f.length-1,by omega⟩
 rw[hk,IR]
 exact(IT (Hu hf k) _ _ (fun a ha=>D6 hf ha) ((Qg f).snoc (by omega) (by omega) (by simp))).2
theorem qU {f:List AL} (hf:BA f) (h0:0<f.length):Ord f (KP f f.length [] 0):=by
 have h1:=Hu hf f.length [] 0 (Qg f) (by omega) (by omega) (by simp)
 have h2:=MP hf f.length [] 0 (Qg f) (by omega) (by omega) (by simp) (by simp)
 have h3:=qT hf h0
 refine⟨h1.1,?_,fun n hn a ha=>?_⟩
 ·obtain⟨t,ht⟩:=h3
  rw[←ht]
  exact⟨rfl,by simp⟩
 ·rcases h2.2 n hn with h|h
  ·cases h
  ·exact h a ha
theorem YS {o:List Int} (hn:o.Nodup) {i:Nat} (hi:i<o.length):TQ o (o.getD i 0)=(i:Int):=by
 have e:o.getD i 0=o[i]:=by rw[List.getD_eq_getElem?_getD,List.getElem?_eq_getElem hi];rfl
 rw[e]
 unfold TQ
 rw[if_pos (List.getElem_mem hi),hn.idxOf_getElem i hi]
theorem qV {o:List Int} {x:Int} (h:x∈o):0≤TQ o x∧TQ o x<(o.length:Int)∧o.getD (TQ o x).toNat 0=x:=by
 unfold TQ
 rw[if_pos h]
 have hl:=List.idxOf_lt_length_of_mem h
 refine⟨by omega,by omega,?_⟩
 rw[Int.toNat_natCast,List.getD_eq_getElem?_getD,List.getElem?_eq_getElem hl]
 show o[o.idxOf x]=x
 exact List.getElem_idxOf hl
theorem lN (f:List AL):(CP f 0).length=(KP f f.length [] 0).length:=by simp[CP]
theorem lO {f:List AL} {i:Nat} (hi:i<(KP f f.length [] 0).length):(CP f 0).getD i (0,[])=iC f (KP f f.length [] 0) ((KP f f.length [] 0).getD i 0):=by
 unfold CP
 simp[List.getD_eq_getElem?_getD,hi]
theorem YT (acc:Int→Int×Int→Bool) {f:List AL} {n:Int} (h0:0≤n) (h1:n<f.length):(FI acc f f.length).getD n.toNat (0,[])=((f.getD n.toNat (0,[])).1,(Bk f n).filter (acc n)):=by
 have hn:n.toNat<f.length:=by omega
 have e:((n.toNat:Nat):Int)=n:=by omega
 unfold FI
 simp only[List.getD_eq_getElem?_getD,List.getElem?_map,List.getElem?_range hn,Option.map_some,Option.getD_some,qO]
 rw[e]
 rfl
end
/- Plain: what Keep keeps; Keep twice is Keep. -/
section
theorem xR (l:List (Int×Int)) (x:Int):sZ l x=-1∨∃a∈l,a.1=x∧a.2=sZ l x:=by
 have key:∀(l:List (Int×Int)) (t:Int),l.foldl (fun t a=>if a.1=x then a.2 else t) t=t∨∃a∈l,a.1=x∧a.2=l.foldl (fun t a=>if a.1=x then a.2 else t) t:=by
  intro l
  induction l with
  | nil=>intro t;exact .inl rfl
  | cons b l ih =>
   intro t
   rw[List.foldl_cons]
   by_cases h:b.1=x
   ·rw[if_pos h]
    rcases ih b.2 with e|⟨a,ha,e⟩
    ·exact .inr ⟨b,by simp,h,e.symm⟩
    ·exact .inr ⟨a,by simp[ha],e⟩
   ·rw[if_neg h]
    rcases ih t with e|⟨a,ha,e⟩
    ·exact .inl e
    ·exact .inr ⟨a,by simp[ha],e⟩
 exact key l (-1)
theorem qW {l:List (Int×Int)} {x:Int} (h:0≤sZ l x):∃a∈l,a.1=x∧a.2=sZ l x:=by
 rcases xR l x with e|h1
 ·omega
 ·exact h1
theorem lP {f:List AL} (hf:BA f) (hs:FY f) (h0:0<f.length) (acc:Int→Int×Int→Bool) {n:Int} (hn:n∈KP (FI acc f f.length) f.length [] 0) :
  Bk (SX acc f) (TQ (KP (FI acc f f.length) f.length [] 0) n)=((Bk f n).filter (acc n)).map (xN (KP (FI acc f f.length) f.length [] 0)):=by
 obtain⟨hPg,hPs⟩:=Ud hf hs acc
 have hPl:=IU acc f f.length
 have ho:=qU hPg (by omega)
 have hg:=fun i=>lO (f:=FI acc f f.length) (i:=i)
 rw[hPl]at ho hg
 obtain⟨g0,g1,g2⟩:=qV hn
 have hr:=ho.ok.rng n hn
 rw[hPl]at hr
 show ((SX acc f).getD _ (0,[])).2=_
 have:SX acc f=CP (FI acc f f.length) 0:=rfl
 rw[this,hg _ (by omega),g2]
 unfold iC
 rw[YT acc hr.1 hr.2]
end
/- Plain: the first paths are shortest; Depth twice is the lesser Depth. -/
section
theorem Om {f:List AL}:∀(p:List Int) (n:Int) (z:List Int),FJ f n p=none→FJ f n (p++z)=none
 | [],_,_,h=>by cases h
 | x :: p,n,z,h=>by
  simp only[FJ,List.cons_append]at h ⊢
  split
  ·rfl
  ·rename_i hc
   rw[if_neg hc]at h
   exact Om p _ z h
theorem lQ {f:List AL} {p:List Int} {e y:Int} (h:FJ f 0 (p++[e])=some y):∃x,FJ f 0 p=some x∧∃a∈Bk f x,a.1=e∧a.2=y:=by
 cases hh:FJ f 0 p with
 | none=>rw[Om p 0 [e] hh]at h;cases h
 | some x =>
  have hw:=MS f p 0 x e hh
  rw[h]at hw
  split at hw
  ·cases hw
  ·rename_i hc
   obtain⟨a,ha,e1,e2⟩:=qW (l:=Bk f x) (x:=e) (by omega)
   exact⟨x,rfl,a,ha,e1,by rw[e2];exact(Option.some.inj hw).symm⟩
end
/- Functions of subsume: target, Map, Subsumes. -/
section
open Go
end
/- Functions of subsume: Map, Subsumes. -/
section
structure qX (a b:List AL) (m:List Int):Prop where
 len:m.length=a.length
 rng:∀x∈m,x<(b.length:Int)
theorem qX.set {a b:List AL} {m:List Int} (h:qX a b m) (k:Nat) {v:Int} (hv:v<(b.length:Int)):qX a b (m.set k v):=by
 refine⟨by simp[h.len],fun x hx=>?_⟩
 rcases List.mem_or_eq_of_mem_set hx with hx|hx
 ·exact h.rng x hx
 ·rw[hx];exact hv
theorem qX.get {a b:List AL} {m:List Int} (h:qX a b m) (hb:0<b.length) (k:Nat):m.getD k 0<(b.length:Int):=by
 rw[List.getD_eq_getElem?_getD]
 cases hh:m[k]? with
 | none=>show (0:Int)<_;omega
 | some x=>exact h.rng x (List.mem_of_getElem? hh)
def QJ (h:AP) (f:List AL):Prop:=∀x∈f,0≤x.1∧x.1<(h.1.length:Int)
end
/- Plain: subsume.Map finds a map if there is one; parts subsume, and parts of what subsumes subsume parts. -/
section
def RO (f:List AL):Prop:=∀i:Int,0<i→i<(f.length:Int)→∃j,0≤j∧j<i∧∃x∈Bk f j,x.2=i
/-! The map is found -/
/-! What is found is a map -/
/-! A canonical form is led through in order -/
theorem YU {f:List AL} (hf:BA f):∀(k:Nat) (t:List Int) (n:Int),SU f t→0≤n→n<f.length→n∉t →
  ∀q,t.length<q→q<(KP f k t n).length→∃j,j<q∧∃a∈Bk f ((KP f k t n).getD j 0),a.2=(KP f k t n).getD q 0
 | 0,t,n,h,h0,h1,h2,q,hq1,hq2=>by simp only[KP]at hq2;omega
 | k+1,t,n,h,h0,h1,h2,q,hq1,hq2=>by
  have key:∀(l:List (Int×Int)) (u:List Int),(∀a∈l,a∈Bk f n)→SU f u→t++[n] <+: u →
    (∀q,t.length<q→q<u.length→∃j,j<q∧∃a∈Bk f (u.getD j 0),a.2=u.getD q 0) →
    ∀q,t.length<q→q<(l.foldl (Cv f k) u).length→∃j,j<q∧∃a∈Bk f ((l.foldl (Cv f k) u).getD j 0),a.2=(l.foldl (Cv f k) u).getD q 0:=by
   intro l
   induction l with
   | nil=>intro u _ _ _ hu q g1 g2;exact hu q g1 g2
   | cons a l ih =>
    intro u hl hu hpre hlead
    have ha:=hl a (by simp)
    have hr:=D6 hf ha
    rw[List.foldl_cons]
    by_cases hm:a.2∈u
    ·have hs:Cv f k u a=u:=by unfold Cv;rw[if_pos hm]
     rw[hs]
     exact ih u (fun b hb=>hl b (by simp[hb])) hu hpre hlead
    ·have hs:Cv f k u a=KP f k u a.2:=by unfold Cv;rw[if_neg hm]
     rw[hs]
     obtain⟨d1,d2⟩:=Hu hf k u a.2 hu hr.1 hr.2 hm
     have hget:∀j,j<u.length→(KP f k u a.2).getD j 0=u.getD j 0:=fun j hj=>by
      obtain⟨v,hv⟩:=d2
      rw[←hv]
      simp only[List.getD_eq_getElem?_getD]
      rw[List.getElem?_append_left hj]
     have hun:u.getD t.length 0=n:=by
      obtain⟨v,hv⟩:=hpre
      rw[←hv]
      simp[List.getD_eq_getElem?_getD]
     have hul:t.length<u.length:=by
      have:=hpre.length_le
      simp at this
      omega
     refine ih (KP f k u a.2) (fun b hb=>hl b (by simp[hb])) d1 (hpre.trans d2) (fun q g1 g2=>?_)
     by_cases hq:q<u.length
     ·obtain⟨j,j1,b,hb,e⟩:=hlead q g1 hq
      refine⟨j,j1,b,?_,?_⟩
      ·rw[hget j (by omega)];exact hb
      ·rw[hget q hq];exact e
     ·by_cases hq2:q=u.length
      ·subst hq2
       refine⟨t.length,hul,a,?_,?_⟩
       ·rw[hget _ hul,hun];exact ha
       ·cases k with
        | zero=>simp only[KP]at g2;omega
        | succ k =>
         have hp:u++[a.2] <+: KP f (k+1) u a.2:=by
          rw[IR]
          exact(IT (Hu hf k) _ _ (fun b hb=>D6 hf hb) (hu.snoc hr.1 hr.2 hm)).2
         obtain⟨v,hv⟩:=hp
         rw[←hv]
         simp[List.getD_eq_getElem?_getD]
      ·exact YU hf k u a.2 hu hr.1 hr.2 hm q (by omega) g2
  rw[IR]at hq2 ⊢
  exact key _ (t++[n]) (fun a ha=>ha) (h.snoc h0 h1 h2) (List.prefix_refl _) (fun q g1 g2=>by simp only[List.length_append,List.length_singleton]at g2;omega) q hq1 hq2
theorem xS {f:List AL} (hf:BA f) (hs:FY f) (h0:0<f.length) (acc:Int→Int×Int→Bool):RO (SX acc f):=by
 obtain⟨hPg,hPs⟩:=Ud hf hs acc
 have hPl:=IU acc f f.length
 have ho:=qU hPg (by omega)
 have hcl:=lN (FI acc f f.length)
 have hlead:=YU hPg (FI acc f f.length).length [] 0 (Qg _) (by omega) (by omega) (by simp)
 have har:=fun n hn=>lP hf hs h0 acc (n:=n) hn
 rw[hPl]at ho hcl hlead
 have hpf:(SX acc f).length=(KP (FI acc f f.length) f.length [] 0).length:=hcl
 intro i g0 g1
 rw[hpf]at g1
 generalize KP (FI acc f f.length) f.length [] 0=o at *
 obtain⟨j,j1,a,ha,e⟩:=hlead i.toNat (by simp only[List.length_nil];omega) (by omega)
 have hjm:o.getD j 0∈o:=AE _ 0 (by omega)
 have hr:=ho.ok.rng _ hjm
 rw[hPl]at hr
 rw[Bk,YT acc hr.1 hr.2]at ha
 refine⟨(j:Int),by omega,by omega,xN o a,?_,?_⟩
 ·have:=har _ hjm
  rw[YS ho.ok.nd (by omega)]at this
  rw[this]
  exact List.mem_map.2 ⟨a,ha,rfl⟩
 ·show TQ o a.2=i
  rw[e,YS ho.ok.nd (by omega)]
  omega
/-! Types -/
end
/- Plain: a forest of representatives; a path halved leaves the representatives as they are. -/
section
abbrev qY (p:List Int) (n:Int):Int:=p.getD n.toNat 0
structure Fo (p:List Int) (rk:Int→Nat):Prop where
 rng:∀n,0≤n→n<(p.length:Int)→0≤qY p n∧qY p n<(p.length:Int)
 dec:∀n,0≤n→n<(p.length:Int)→qY p n≠n→rk (qY p n)<rk n
inductive Rt (p:List Int):Int→Int→Prop
 | base {n:Int} (h:qY p n=n):Rt p n n
 | step {n r:Int} (h:qY p n≠n) (h2:Rt p (qY p n) r):Rt p n r
theorem Rt.root {p:List Int} {n r:Int} (h:Rt p n r):qY p r=r:=by
 induction h with
 | base h=>exact h
 | step _ _ ih=>exact ih
theorem Fo.ex {p:List Int} {rk:Int→Nat} (h:Fo p rk):∀(k:Nat) (n:Int),rk n≤k→0≤n→n<(p.length:Int)→∃r,Rt p n r∧0≤r∧r<(p.length:Int)
 | 0,n,hk,h0,h1=>by
  by_cases e:qY p n=n
  ·exact⟨n,.base e,h0,h1⟩
  ·have:=h.dec n h0 h1 e
   omega
 | k+1,n,hk,h0,h1=>by
  by_cases e:qY p n=n
  ·exact⟨n,.base e,h0,h1⟩
  ·have hd:=h.dec n h0 h1 e
   have hr:=h.rng n h0 h1
   obtain⟨r,g1,g2,g3⟩:=h.ex k (qY p n) (by omega) hr.1 hr.2
   exact⟨r,.step e g1,g2,g3⟩
theorem Fo.root {p:List Int} {rk:Int→Nat} (h:Fo p rk) {n:Int} (h0:0≤n) (h1:n<(p.length:Int)):∃r,Rt p n r∧0≤r∧r<(p.length:Int):=h.ex (rk n) n (Nat.le_refl _) h0 h1
def Oo (p q:List Int):Prop:=p.length=q.length∧∀x r,0≤x→x<(p.length:Int)→(Rt p x r↔Rt q x r)
theorem Oo.refl (p:List Int):Oo p p:=⟨rfl,fun _ _ _ _=>Iff.rfl⟩
theorem Oo.trans {p q s:List Int} (h:Oo p q) (g:Oo q s):Oo p s :=
 ⟨h.1.trans g.1,fun x r x0 x1=>(h.2 x r x0 x1).trans (g.2 x r x0 (by rw[←h.1];exact x1))⟩
end
/- Functions of unify.classes: find, add. -/
section
open Go
end
/- Functions of unify.classes: add. -/
section
open Go
end
/- Functions of unify.classes: join's merge. -/
section
attribute [local go_sem] SI
section
variable {xs ys W0 x y bo V:List (Int×Int)} {k:Nat}
end
end
/- Plain: what join keeps: the classes are the least that make the pairs equal, and what they have is asked by all. -/
section
/-! Merged arcs -/
abbrev Str (l:List (Int×Int)):Prop:=l.Pairwise (fun a b=>a.1<b.1)
/-! Classes joined -/
inductive EG (n:Nat) (p:List Int) (W:List (Int×Int)):Int→Int→Prop
 | cls {x y r:Int} (x0:0≤x) (x1:x<(n:Int)) (y0:0≤y) (y1:y<(n:Int)) (h:Rt p x r) (g:Rt p y r):EG n p W x y
 | wt {x y:Int} (h:(x,y)∈W):EG n p W x y
 | symm {x y:Int} (h:EG n p W x y):EG n p W y x
 | trans {x y z:Int} (h:EG n p W x y) (g:EG n p W y z):EG n p W x z
theorem EG.mono {n:Nat} {p q:List Int} {W V:List (Int×Int)} (h1:∀x y r,0≤x→x<(n:Int)→0≤y→y<(n:Int)→Rt p x r→Rt p y r→EG n q V x y) (h2:∀x y,(x,y)∈W→EG n q V x y) {x y:Int} (h:EG n p W x y):EG n q V x y:=by
 induction h with
 | cls x0 x1 y0 y1 h g=>exact h1 _ _ _ x0 x1 y0 y1 h g
 | wt h=>exact h2 _ _ h
 | symm _ ih=>exact .symm ih
 | trans _ _ ih1 ih2=>exact .trans ih1 ih2
section
variable {h:AP} {N:List AL} {P:List (Int×Int)} {p ty:List Int} {ar:List (List (Int×Int))} {W:List (Int×Int)} {s t a b:Int}
end
end
/- Functions of unify.classes: join. -/
section
theorem Oq {α:Type} [DecidableEq α]:∀ {l l':List α},l.Nodup→(∀x∈l,x∈l')→l.length≤l'.length
 | [],_,_,_=>by simp
 | x :: l,l',hn,h=>by
  obtain⟨hx,hn2⟩:=List.nodup_cons.1 hn
  have hm:=h x (by simp)
  have:=Oq (l:=l) (l':=l'.erase x) hn2 (fun y hy=>(List.mem_erase_of_ne (fun e:y=x=>hx (by rw[←e];exact hy))).2 (h y (by simp[hy])))
  rw[List.length_erase_of_mem hm]at this
  have:=List.length_pos_of_mem hm
  simp only[List.length_cons]
  omega
theorem xT {l:List (Int×Int)} (h:Str l) {S:List Int} (hs:∀a∈l,a.1∈S):l.length≤S.length:=by
 have hn:(l.map (·.1)).Nodup:=by
  unfold List.Nodup
  rw[List.pairwise_map]
  exact h.imp fun g=>by omega
 have:=Oq hn (l':=S) (fun x hx=>by
  obtain⟨a,ha,rfl⟩:=List.mem_map.1 hx
  exact hs a ha)
 rwa [List.length_map]at this
end
/- Plain: the graph of the classes. -/
section
open Classical in
/-- The node that stands for a node. -/
noncomputable def rtF (p:List Int) (x:Int):Int:=if h:∃r,Rt p x r then h.choose else x
noncomputable def quo (p ty:List Int) (ar:List (List (Int×Int))):List AL:=(List.range p.length).map fun k=>(ty.getD k 0,(ar.getD k []).map fun a=>(a.1,rtF p a.2))
end
/- Functions of unify.classes: graph's visit. -/
section
open Go
end
/- Functions of unify.classes: graph. -/
section
open Go
end
/- Plain: the graph of the classes is the most general structure into which the nodes go so that the pairs are one. -/
section
section
variable {h:AP} {N:List AL} {P:List (Int×Int)} {p ty:List Int} {ar:List (List (Int×Int))}
end
end
/- Plain: types of one set are one. -/
section
def y8 (c:List Int):Prop:=c.length=0∨c.getD (c.length-1) 0≠0
theorem MT (b:List Int):y8 (BB b):=by
 unfold y8 BB
 have hl:=Rm b b.length
 rw[List.length_take,Nat.min_eq_left hl]
 rcases Od b b.length with h|h
 ·exact .inl h
 ·by_cases h0:CN b b.length=0
  ·exact .inl h0
  ·right
   rw[List.getD_eq_getElem?_getD,List.getElem?_take_of_lt (by omega),←List.getD_eq_getElem?_getD]
   exact h
theorem xU {a b:List Int} (ha:HW a) (hb:HW b) (h:∀i,BK a i=BK b i) (k:Nat):a.getD k 0=b.getD k 0:=by
 have ua:=A4 ha k
 have ub:=A4 hb k
 have ua1:=ua.1
 have ua2:=ua.2
 have ub1:=ub.1
 have ub2:=ub.2
 have e:(a.getD k 0).toNat=(b.getD k 0).toNat:=by
  refine Nat.eq_of_testBit_eq fun r=>?_
  by_cases hr:r<64
  ·have:=h (64*k+r)
   unfold BK at this
   rw[show (64*k+r) / 64=k by omega,show (64*k+r) % 64=r by omega]at this
   exact this
  ·have big:∀n:Nat,n<18446744073709551616→n.testBit r=false:=fun n hn=>by
    have e:(18446744073709551616:Nat)=2 ^ 64:=by decide
    rw[e]at hn
    exact Nat.testBit_lt_two_pow (Nat.lt_of_lt_of_le hn (Nat.pow_le_pow_right (by decide) (by omega)))
   rw[big _ (by omega),big _ (by omega)]
 omega
theorem iJ {a b:List Int} (hw:∀k,a.getD k 0=b.getD k 0) (hb:y8 b):b.length≤a.length:=by
 rcases hb with h|h
 ·omega
 ·refine Classical.byContradiction fun hc=>h ?_
  rw[←hw]
  exact Fq (by omega)
theorem qZ {a b:List Int} (ha:HW a) (hb:HW b) (na:y8 a) (nb:y8 b) (h:∀i,BK a i=BK b i):a=b:=by
 have hw:=xU ha hb h
 have hl:a.length=b.length:=Nat.le_antisymm (iJ (fun k=>(hw k).symm) na) (iJ hw nb)
 refine List.ext_getElem hl fun i h1 h2=>?_
 have:=hw i
 simpa[List.getD_eq_getElem?_getD,h1,h2] using this
theorem YV {α:Type} (l:List α) (x:α) (n:Nat):List.Perm (l.take n++[x]++l.drop n) (x :: l):=by
 have h:l.take n++[x]++l.drop n=l.take n++x :: l.drop n:=by simp
 rw[h]
 refine List.perm_middle.trans ?_
 rw[List.take_append_drop]
def Apt (l:List ByteArray):Prop:=l.Pairwise fun a b=>Ak a b=false
theorem Ps {a b:ByteArray} (h:Ak a b=false):Ak b a=false:=by
 cases hh:Ak b a with
 | false=>rfl
 | true=>rw[Eh hh]at h;cases h
theorem q9 {l:List ByteArray} {s:ByteArray} (h:Apt l) (hs:∀x∈l,Ak x s=false):Apt (Dh l s):=by
 unfold Dh
 split
 ·exact h
 ·refine(List.Perm.pairwise_iff (fun hxy=>Ps hxy) (YV l s _)).2 ?_
  exact List.pairwise_cons.2 ⟨fun x hx=>Ps (hs x hx),h⟩
theorem aG {d:List AJ} (hn:DK d=0):Apt (AU d):=by
 have key:∀k,k≤d.length→Apt (AU (d.take k))∧∀s∈AU (d.take k),∃i,i<k∧(d.getD i d0).1=s:=by
  intro k
  induction k with
  | zero =>
   intro _
   exact⟨.nil,fun s hs=>by cases hs⟩
  | succ k ih =>
   intro hk
   obtain⟨h1,h2⟩:=ih (by omega)
   have e:AU (d.take (k+1))=Dh (AU (d.take k)) (d.getD k d0).1:=by
    have:d.take (k+1)=d.take k++[d.getD k d0]:=Ab d d0 (by omega)
    rw[this]
    unfold AU
    rw[List.foldl_append]
    rfl
   rw[e]
   refine⟨q9 h1 fun x hx=>?_,fun s hs=>?_⟩
   ·obtain⟨i,hi,rfl⟩:=h2 x hx
    cases hh:Ak (d.getD i d0).1 (d.getD k d0).1 with
    | false=>rfl
    | true =>
     have g:=Pg d hh
     rw[NN hn (j:=i) (by omega),NN hn (j:=k) (by omega)]at g
     omega
   ·rcases NP hs with hs|hs
    ·obtain⟨i,hi,e⟩:=h2 s hs
     exact⟨i,by omega,e⟩
    ·exact⟨k,by omega,hs.symm⟩
 have:=(key d.length (Nat.le_refl _)).1
 rwa [List.take_length]at this
structure Nd (l:List (List Int)):Prop where
 nd:l.Nodup
 nrm:∀c∈l,y8 c
theorem xV {l:List (List Int)} {c:List Int} (h:Nd l) (hc:c∉l) (hn:y8 c):Nd (l++[c]):=by
 refine⟨?_,fun x hx=>?_⟩
 ·rw[List.nodup_append]
  refine⟨h.nd,by simp,fun x hx y hy e=>hc ?_⟩
  have:y=c:=by simpa using hy
  rw[←this,←e]
  exact hx
 ·rcases List.mem_append.1 hx with hx|hx
  ·exact h.nrm x hx
  ·have:x=c:=by simpa using hx
   rw[this]
   exact hn
theorem xW {l:List (List Int)} (h:Nd l) (i k:Nat):Nd (F3 l i k):=by
 unfold F3
 split
 ·rename_i hc
  rw[Bool.and_eq_true,Bool.not_eq_true']at hc
  refine xV h (fun hm=>?_) (MT _)
  have:Zh l (FE (l.getD i []) (l.getD k []))=true:=List.any_eq_true.2 ⟨_,hm,by unfold Gd;exact decide_eq_true rfl⟩
  rw[this]at hc
  cases hc.2
 ·exact h
theorem iK {i:Nat}:∀ {n k:Nat} {l:List (List Int)},Nd l→Nd (F4 i n k l)
 | 0,_,_,h=>h
 | n+1,k,l,h=>by
  unfold F4
  split
  ·exact iK (xW h i k)
  ·exact h
theorem WK:∀ {n i:Nat} {l:List (List Int)},Nd l→Nd (Hq n i l)
 | 0,_,_,h=>h
 | n+1,i,l,h=>by
  unfold Hq
  split
  ·exact WK (iK h)
  ·exact h
theorem Uh {d:List AJ} (h3:BE d=0):Nd (AZ d):=by
 obtain⟨-,h2,-,hn,hl⟩:=A3 h3
 have hnl:=Ef d d.length
 rw[List.take_length]at hnl
 have hap:=aG hn
 refine⟨?_,fun c hc=>?_⟩
 ·unfold AZ List.Nodup
  rw[List.pairwise_map,List.pairwise_iff_getElem]
  intro i j hi hj hij e
  have h1:=(List.pairwise_iff_getElem.1 hap) i j hi hj hij
  have g:∀k,(hk:k<(AU d).length)→(AU d).getD k ByteArray.empty=(AU d)[k]:=fun k hk=>by simp[List.getD_eq_getElem?_getD,hk]
  have hw:=(Dy (d:=d) (all:=AU d) (by omega) (AU d)[j] 0).2.1
  have h5:=X0 hn hl h2 hi hj (by
   rw[g i hi,g j hj,e]
   unfold FA
   have:=(Zw hw hw).2 fun _ h=>h
   rw[this]
   rfl)
  rw[g i hi,g j hj,h1]at h5
  cases h5
 ·obtain⟨s,hs,rfl⟩:=List.mem_map.1 hc
  unfold F8 sY
  split
  ·exact MT _
  ·exact .inl rfl
theorem KV {d:List AJ}:∀ {l:List (List Int)} {o:List AQ},(o.map (·.2)++l).Nodup→((l.foldl (Ob d) o).map (·.2)).Nodup
 | [],o,h=>by simpa using h
 | b :: l,o,h=>by
  rw[List.foldl_cons]
  refine KV ?_
  unfold Ob FW Vv
  have hp:=(YV o (Gm d (AU d) (AZ d) b,b) (Es (Gm d (AU d) (AZ d) b,b) o o.length)).map (fun x:AQ=>x.2)
  have hp2:List.Perm ((o.take (Es (Gm d (AU d) (AZ d) b,b) o o.length)++[(Gm d (AU d) (AZ d) b,b)]++o.drop (Es (Gm d (AU d) (AZ d) b,b) o o.length)).map (fun x:AQ=>x.2)++l) (o.map (·.2)++b :: l) :=
   (hp.append_right l).trans (List.perm_middle (a:=b)).symm
  exact hp2.nodup_iff.2 h
def A05 (h:AP):Prop:=∀a b,0≤a→a<(h.1.length:Int)→0≤b→b<(h.1.length:Int)→HX h a b=true→HX h b a=true→a=b
theorem A06 {h:AP} (hk:lE h) (hn:Nd (h.1.map fun t=>t.2.1)):A05 h:=by
 intro a b a0 a1 b0 b1 h1 h2
 have wa:=hk.1.wds _ (B3 a0 a1)
 have wb:=hk.1.wds _ (B3 b0 b1)
 have e:BO h a=BO h b:=qZ wa wb (hn.nrm _ (B3 a0 a1)) (hn.nrm _ (B3 b0 b1)) fun i=>by
  rw[Bool.eq_iff_iff]
  exact⟨(Cu hk b0 b1 a0 a1).1 h2 i,(Cu hk a0 a1 b0 b1).1 h1 i⟩
 have hp:=List.pairwise_iff_getElem.1 hn.nd
 have g:∀k:Int,0≤k→(hk:k<(h.1.length:Int))→BO h k=(h.1.map fun t=>t.2.1)[k.toNat]'(by rw[List.length_map];omega):=fun k k0 k1=>by
  unfold BO
  simp[List.getD_eq_getElem?_getD,show k.toNat<h.1.length by omega]
 rw[g a a0 a1,g b b0 b1]at e
 rcases Int.lt_trichotomy a b with hlt|heq|hlt
 ·exact absurd e (hp a.toNat b.toNat (by rw[List.length_map];omega) (by rw[List.length_map];omega) (by omega))
 ·exact heq
 ·exact absurd e.symm (hp b.toNat a.toNat (by rw[List.length_map];omega) (by rw[List.length_map];omega) (by omega))
theorem YW (d:List AJ):A05 (A9 d).1:=by
 refine A06 (KM d) ?_
 unfold A9
 split
 ·exact⟨.nil,fun c h=>(by cases h)⟩
 ·rename_i hv
  have hv:(BJ d).2=0:=Classical.byContradiction hv
  have h5:BH d=0:=by
   unfold BJ at hv
   split at hv
   ·rename_i h;exact absurd hv h
   ·rename_i h;exact Classical.byContradiction h
  obtain⟨hz,-,-⟩:=CK h5
  obtain⟨h3,hlen,-⟩:=Bc hz
  have hf:Nd (Ay (AZ d)):=WK (Uh h3)
  have e:((Fs d).1.map fun t=>t.2.1)=(Au d).map fun x=>x.2:=by
   show ((EX _ _ _).map fun t=>t.2.1)=_
   unfold EX
   rw[List.map_map]
   apply List.ext_getElem
   ·simp
   ·intro i h1 h2
    simp[List.getD_eq_getElem?_getD,show i<(Au d).length by simpa using h1]
  show Nd ((Fs d).1.map fun t=>t.2.1)
  rw[e]
  refine⟨KV (by simpa using hf.nd),fun c hc=>?_⟩
  obtain⟨x,hx,rfl⟩:=List.mem_map.1 hc
  obtain⟨b,hb,rfl⟩:=DP.1 hx
  exact hf.nrm b hb
end
/- Plain: maps of structures in order are one; the most general structure of two is one. -/
section
structure VF (h:AP) (f:List AL):Prop where
 good:BA f
 pos:0<f.length
 ty:QJ h f
 str:∀x∈f,Str x.2
 ft:∀x∈f,∀a∈x.2,0≤a.1∧a.1<(h.2.length:Int)
 can:CP f 0=f
 ro:RO f
structure HU (h:AP):Prop where
 ok:lE h
 inj:A05 h
 ft:h.2.length≤64
end
/- Plain: the classes before they are joined. -/
section
def A2T (N:List AL):Prop:=∀x∈N,∀a∈x.2,0≤a.1∧a.1<64
theorem A07 {l:List (Int×Int)} (h:Str l) (hf:∀a∈l,0≤a.1∧a.1<64):l.length≤64:=by
 have:=xT h (S:=(List.range 64).map fun(i:Nat)=>(i:Int)) (fun a ha=>List.mem_map.2 ⟨a.1.toNat,List.mem_range.2 (by have:=hf a ha;omega),by have:=hf a ha;omega⟩)
 rwa [List.length_map,List.length_range]at this
theorem VF.ft64 {h:AP} {f:List AL} (hv:VF h f) (hu:HU h):A2T f:=fun x hx a ha=>by
 have h1:=hv.ft x hx a ha
 have h2:=hu.ft
 omega
end
/- Plain: type 0 subsumes each type. -/
section
/-! All declared types are below the root -/
def A2k (d:List AJ) (o:List ByteArray) (i:Nat):Prop:=∀j,j<i→∀x∈d,AY x.2.1 (o.getD j ByteArray.empty)=true→AY o x.1=true
theorem rA {c:ByteArray} {o:List ByteArray} {x:AJ} (h:AY x.2.1 c=true):AY (Et c o x) x.1=true:=by
 unfold Et
 split
 ·rw[L9,Eg,Bool.or_true]
 ·rename_i hc
  rw[h,Bool.true_and,Bool.not_eq_true']at hc
  simpa using hc
theorem Ui {c:ByteArray} {x:AJ} (h:AY x.2.1 c=true):∀ {l:List AJ} {o:List ByteArray},x∈l→AY (l.foldl (Et c) o) x.1=true
 | [],_,hx=>by cases hx
 | y :: l,o,hx=>by
  rw[List.foldl_cons]
  rcases List.mem_cons.1 hx with rfl|hx
  ·exact LB (fun z hz=>K9 hz) (rA h)
  ·exact Ui h hx
theorem YX {d:List AJ}:∀ {n i:Nat} {o:List ByteArray},Wa d o→d.length≤n+i→A2k d o i→i≤o.length→∃m,A2k d (DL d n i o) m∧(DL d n i o).length≤m
 | 0,i,o,ha,hd,hb,hi=>⟨i,hb,by
  have:=ha.len
  show o.length≤i
  omega⟩
 | n+1,i,o,ha,hd,hb,hi=>by
  unfold DL
  split
  ·rename_i hlt
   obtain⟨g1,g2⟩:=Ru (o.getD i ByteArray.empty) (l:=d) (o:=o) (fun _ h=>h) ha
   refine YX g1 (by omega) (fun j hj x hx hs=>?_) (by omega)
   rw[OV _ (by omega)]at hs
   by_cases e:j=i
   ·subst e
    exact Ui hs hx
   ·exact LB (fun z hz=>K9 hz) (hb j (by omega) x hx hs)
  ·exact⟨i,hb,by omega⟩
theorem Ot {α:Type} {p:α→Bool}:∀ {l:List α},l.countP p=1→∀x∈l,p x=true→∀y∈l,p y=true→x=y
 | [],h,x,hx,_,_,_,_=>by cases hx
 | z :: l,h,x,hx,px,y,hy,py=>by
  rw[List.countP_cons]at h
  by_cases pz:p z=true
  ·rw[if_pos pz]at h
   have h0:l.countP p=0:=by omega
   rw[List.countP_eq_zero]at h0
   have e1:x=z:=by
    rcases List.mem_cons.1 hx with e|hx
    ·exact e
    ·exact absurd px (h0 x hx)
   have e2:y=z:=by
    rcases List.mem_cons.1 hy with e|hy
    ·exact e
    ·exact absurd py (h0 y hy)
   rw[e1,e2]
  ·rw[if_neg pz]at h
   have hx:x∈l:=by
    rcases List.mem_cons.1 hx with e|hx
    ·rw[e]at px;exact absurd px pz
    ·exact hx
   have hy:y∈l:=by
    rcases List.mem_cons.1 hy with e|hy
    ·rw[e]at py;exact absurd py pz
    ·exact hy
   exact Ot (by omega) x hx px y hy py
theorem Sg (s:ByteArray):∀(l:List AJ) (k:Nat),0≤CO s k l→∃x∈l,Ak x.1 s=true
 | [],k,h=>by
  simp only[CO]at h
  omega
 | y :: l,k,h=>by
  simp only[CO]at h
  split at h
  ·rename_i e
   exact⟨y,by simp,e⟩
  ·obtain⟨x,hx,e⟩:=Sg s l (k+1) h
   exact⟨x,by simp[hx],e⟩
theorem aH {d:List AJ} (h3:BE d=0):∃r∈d,∀x∈d,AY (DM d r.1) x.1=true:=by
 obtain⟨hs,h2,h1,hn,hl⟩:=A3 h3
 have hpos:0<d.countP fun x=>x.2.1.length==0:=by
  have:Gi d=d.countP fun x=>x.2.1.length==0:=rfl
  omega
 obtain⟨r,hr,pr⟩:=List.countP_pos_iff.1 hpos
 refine⟨r,hr,?_⟩
 have hrd:=Ei hr
 have hA:Wa d [r.1]:=⟨fun s hs=>by
  have:s=r.1:=by simpa using hs
  rw[this]
  exact hrd,by simp⟩
 obtain⟨m,hm1,hm2⟩:=YX (d:=d) (n:=d.length) (i:=0) hA (by omega) (fun j hj=>by omega) (by omega)
 have hsub:r.1∈DL d d.length 0 [r.1]:=MH (by simp)
 have hb:DM d r.1=KD (DL d d.length 0 [r.1]):=by unfold DM;rw[if_neg (by omega)]
 rw[hb]
 generalize DL d d.length 0 [r.1]=o at *
 have key:∀(k:Nat) (x:AJ),x∈d→Gl d x.1≤k→AY o x.1=true:=by
  intro k
  induction k with
  | zero =>
   intro x hx hk
   by_cases hc:x.2.1.length=0
   ·have e:=Ot h1 x hx (by simpa using hc) r hr pr
    rw[e]
    exact LA hsub
   ·obtain⟨s,hs2⟩:∃s,s∈x.2.1:=List.exists_mem_of_length_pos (by omega)
    have:=MG hn hl hx (LA hs2)
    omega
  | succ k ih =>
   intro x hx hk
   by_cases hc:x.2.1.length=0
   ·have e:=Ot h1 x hx (by simpa using hc) r hr pr
    rw[e]
    exact LA hsub
   ·obtain⟨s,hs2⟩:∃s,s∈x.2.1:=List.exists_mem_of_length_pos (by omega)
    have hrk:=MG hn hl hx (LA hs2)
    obtain⟨y,hy,e⟩:=Sg s d 0 (hs x hx s hs2)
    rw[←MF d e]at hrk
    obtain⟨z,hz,e2⟩:=List.any_eq_true.1 (ih y hy (by omega))
    obtain⟨j,hj,rfl⟩:=FC ByteArray.empty hz
    refine hm1 j (by omega) x hx ?_
    exact List.any_eq_true.2 ⟨s,hs2,Eh (B2 e2 e)⟩
 intro x hx
 obtain⟨z,hz,e⟩:=List.any_eq_true.1 (key _ x hx (Nat.le_refl _))
 obtain⟨w,hw,e2⟩:=List.any_eq_true.1 (R2 (o:=[]) hz)
 exact List.any_eq_true.2 ⟨w,hw,B2 e2 e⟩
/-! The greatest code comes first -/
abbrev cnt (c:List Int):Nat:=(Ge c).length
theorem rB {w:Int} (hw:pO w) {r:Nat} (hr:r<64):o9 w (r:Int)=w.toNat.testBit r:=by
 have h0:=hw.1
 have h1:=hw.2
 have hle:w.toNat / 2 ^ r≤w.toNat:=Nat.div_le_self _ _
 have e:Lm .u64 w (r:Int)=((w.toNat / 2 ^ r:Nat):Int):=by
  unfold Lm
  have hm:min ((r:Int)).toNat IntKind.u64.bits=r:=by
   show min ((r:Int)).toNat 64=r
   omega
  have hp:(0:Int)≤2 ^ r:=Int.le_of_lt (Int.pow_pos (by decide))
  rw[hm,Int.fdiv_eq_ediv_of_nonneg _ hp,Int.natCast_ediv,Int.toNat_of_nonneg h0]
  simp
 unfold o9
 rw[Nat.testBit_eq_decide_div_mod_eq,e]
 generalize w.toNat / 2 ^ r=z at *
 rw[Gk ⟨by omega,by omega⟩ ⟨by decide,by decide⟩,Int.toNat_natCast,show (1:Int).toNat=1 from rfl,Nat.and_one_is_mod,Bool.eq_iff_iff,beq_iff_eq,decide_eq_true_eq]
 omega
theorem iL {b:List Int} (hw:HW b) (i:Nat):Rn b (i:Int)=BK b i:=by
 have e1:Int.tdiv (i:Int) 64=((i / 64:Nat):Int):=by rw[Int.tdiv_eq_ediv_of_nonneg (by omega)];omega
 have e2:Int.tmod (i:Int) 64=((i % 64:Nat):Int):=by rw[Int.tmod_eq_emod_of_nonneg (by omega)];omega
 unfold Rn BK
 rw[e1,e2,Int.toNat_natCast]
 by_cases hk:i / 64<b.length
 ·rw[if_neg (by rw[Bool.or_eq_true,decide_eq_true_eq,decide_eq_true_eq];omega),rB (A4 hw _) (by omega)]
 ·rw[if_pos (by rw[Bool.or_eq_true,decide_eq_true_eq,decide_eq_true_eq];omega),Fq hk]
  simp
theorem YY (c:List Int):(Ge c).Nodup:=by
 unfold Ge Lb List.Nodup
 rw[List.pairwise_map]
 refine List.Pairwise.imp (fun h e=>h ?_) (List.Pairwise.filter _ List.nodup_range)
 exact Int.ofNat.inj e
theorem LG {c:List Int} (hw:HW c) {x:Int}:x∈Ge c↔∃i:Nat,x=(i:Int)∧BK c i=true:=by
 unfold Ge Lb
 rw[List.mem_map]
 constructor
 ·rintro⟨i,hi,rfl⟩
  rw[List.mem_filter]at hi
  exact⟨i,rfl,by rw[←iL hw];exact hi.2⟩
 ·rintro⟨i,rfl,hb⟩
  refine⟨i,List.mem_filter.2 ⟨List.mem_range.2 ?_,by rw[iL hw];exact hb⟩,rfl⟩
  refine Classical.byContradiction fun hc=>?_
  unfold BK at hb
  rw[Fq (by omega)]at hb
  simp at hb
theorem A08 {a b:List Int} (ha:HW a) (hb:HW b) (h:∀i,BK a i=true→BK b i=true) (hc:cnt b≤cnt a) (i:Nat) (hi:BK b i=true):BK a i=true:=by
 refine Classical.byContradiction fun hn=>?_
 have hx:(i:Int)∉Ge a:=fun hm=>by
  obtain⟨j,e,hj⟩:=(LG ha).1 hm
  have:i=j:=Int.ofNat.inj e
  rw[this]at hn
  exact hn hj
 have:=Oq (l:=(i:Int) :: Ge a) (l':=Ge b) (List.nodup_cons.2 ⟨hx,YY a⟩) fun x hx=>by
  rcases List.mem_cons.1 hx with rfl|hx
  ·exact(LG hb).2 ⟨i,rfl,hi⟩
  ·obtain⟨j,rfl,hj⟩:=(LG ha).1 hx
   exact(LG hb).2 ⟨j,rfl,h j hj⟩
 rw[List.length_cons]at this
 unfold cnt at hc
 omega
theorem Sh (x:AQ) (out:List AQ):∀n,(Es x out n=0→n=0∨FB x (out.getD 0 c0)=true)∧∀k,Es x out n=k+1→FB x (out.getD k c0)=false
 | 0=>⟨fun _=>.inl rfl,fun k h=>by simp[Es]at h⟩
 | n+1=>by
  obtain⟨h1,h2⟩:=Sh x out n
  unfold Es
  split
  ·rename_i hb
   refine⟨fun e=>?_,h2⟩
   rcases h1 e with e|e
   ·subst e
    exact .inr hb
   ·exact .inr e
  ·rename_i hb
   refine⟨fun e=>by omega,fun k e=>?_⟩
   have:n=k:=by omega
   subst this
   simpa using hb
theorem YZ {a b:AQ} (h:FB a b=true):cnt b.2≤cnt a.2:=by
 unfold FB at h
 rw[Bool.or_eq_true,Bool.and_eq_true,decide_eq_true_eq,beq_iff_eq]at h
 unfold cnt
 omega
theorem WL {a b:AQ} (h:FB a b=false):cnt a.2≤cnt b.2:=by
 unfold FB at h
 rw[Bool.or_eq_false_iff,decide_eq_false_iff_not]at h
 unfold cnt
 omega
def HM (out:List AQ):Prop:=∀y∈out,cnt y.2≤cnt (out.getD 0 c0).2
theorem xX {out:List AQ} (h:HM out) (x:AQ):HM (Vv out x):=by
 obtain⟨s1,s2⟩:=Sh x out out.length
 have hle:=X3 x out out.length
 intro y hy
 rw[X7]at hy
 unfold Vv
 cases hk:Es x out out.length with
 | zero =>
  rw[List.take_zero,List.drop_zero,List.nil_append]
  have e:([x]++out).getD 0 c0=x:=rfl
  rw[e]
  rcases hy with rfl|hy
  ·exact Nat.le_refl _
  ·have h1:=h y hy
   rcases s1 hk with e|e
   ·rw[List.eq_nil_of_length_eq_zero e]at hy
    cases hy
   ·exact Nat.le_trans h1 (YZ e)
 | succ k =>
  have hb:=WL (s2 k hk)
  rw[hk]at hle
  have e:(out.take (k+1)++[x]++out.drop (k+1)).getD 0 c0=out.getD 0 c0:=by
   cases out with
   | nil=>simp at hle
   | cons z out=>rfl
  rw[e]
  rcases hy with rfl|hy
  ·exact Nat.le_trans hb (h _ (Ct (by omega)))
  ·exact h y hy
theorem Ya {d:List AJ}:∀ {l:List (List Int)} {o:List AQ},HM o→HM (l.foldl (Ob d) o)
 | [],_,h=>h
 | b :: l,o,h=>by
  rw[List.foldl_cons]
  exact Ya (xX h _)
/-! Codes hold no other numbers than those of the declared types -/
def In (n:Nat) (c:List Int):Prop:=HW c∧∀i,BK c i=true→i<n
theorem A09 (n:Nat):In n []:=⟨fun x hx=>(by cases hx),fun i hi=>by unfold BK at hi;simp at hi⟩
theorem A0a {n:Nat} {a b:List Int} (ha:In n a) (hb:In n b):In n (FE a b) :=
 ⟨V0 ha.1 hb.1,fun i hi=>by
  rw[Qb ha.1 hb.1,Bool.and_eq_true]at hi
  exact ha.2 i hi.1⟩
theorem iM {n:Nat} {l:List (List Int)} (h:∀c∈l,In n c) (k:Nat):In n (l.getD k []):=by
 by_cases hk:k<l.length
 ·exact h _ (Ct hk)
 ·rw[UZ hk]
  exact A09 n
theorem xY {n:Nat} {l:List (List Int)} (h:∀c∈l,In n c) (i k:Nat):∀c∈F3 l i k,In n c:=by
 intro c hc
 unfold F3 at hc
 split at hc
 ·rcases List.mem_append.1 hc with hc|hc
  ·exact h c hc
  ·have:c=FE (l.getD i []) (l.getD k []):=by simpa using hc
   rw[this]
   exact A0a (iM h i) (iM h k)
 ·exact h c hc
theorem iO {q i:Nat}:∀ {n k:Nat} {l:List (List Int)},(∀c∈l,In q c)→∀c∈F4 i n k l,In q c
 | 0,_,_,h=>h
 | n+1,k,l,h=>by
  unfold F4
  split
  ·exact iO (xY h i k)
  ·exact h
theorem iP {q:Nat}:∀ {n i:Nat} {l:List (List Int)},(∀c∈l,In q c)→∀c∈Hq n i l,In q c
 | 0,_,_,h=>h
 | n+1,i,l,h=>by
  unfold Hq
  split
  ·exact iP (iO h)
  ·exact h
def A2l (h:AP):Prop:=∀t,0≤t→t<(h.1.length:Int)→HX h 0 t=true
theorem Yb (d:List AJ):A2l (A9 d).1:=by
 have hk:=KM d
 unfold A9 at hk ⊢
 split
 ·intro t h0 h1
  simp at h1
  omega
 ·rename_i hv
  rw[if_neg hv]at hk
  have hv:(BJ d).2=0:=Classical.byContradiction hv
  have h5:BH d=0:=by
   unfold BJ at hv
   split at hv
   ·rename_i h;exact absurd hv h
   ·rename_i h;exact Classical.byContradiction h
  obtain⟨hz,-,-⟩:=CK h5
  obtain⟨h3,hlen,-⟩:=Bc hz
  obtain⟨-,h2,-,hn,hl⟩:=A3 h3
  have hnl:=Ef d d.length
  rw[List.take_length]at hnl
  have hal:(AU d).length≤4096:=by omega
  obtain⟨r,hr,hbel⟩:=aH h3
  have hin:∀c∈Ay (AZ d),In (AU d).length c:=iP fun c hc=>by
   obtain⟨s,hs,rfl⟩:=List.mem_map.1 hc
   exact⟨(Dy (d:=d) hal s 0).2.1,fun i hi=>((Dy (d:=d) hal s i).1.1 hi).1⟩
  obtain⟨s,hs,es⟩:=List.any_eq_true.1 (R4 hr)
  have hsr:s=r.1:=by
   obtain⟨x,hx,rfl⟩:=FU hs
   rw[Xx hn hx hr es]
  subst hsr
  have hc0:F8 d (AU d) r.1∈Ay (AZ d):=by
   have hp:AZ d <+: Ay (AZ d):=SD 257 0 (AZ d)
   exact hp.subset (List.mem_map.2 ⟨_,hs,rfl⟩)
  have hall:∀i,i<(AU d).length→BK (F8 d (AU d) r.1) i=true:=fun i hi=>by
   refine(Dy (d:=d) hal r.1 i).1.2 ⟨hi,?_⟩
   obtain⟨x,hx,e⟩:=FU (Ct (d:=ByteArray.empty) hi)
   rw[←e]
   exact hbel x hx
  have hHM:HM (Au d):=Ya fun y hy=>by cases hy
  have hmem0:=DP.2 ⟨_,hc0,rfl⟩
  have hpos:0<(Au d).length:=List.length_pos_of_mem hmem0
  have hmax:=hHM _ hmem0
  obtain⟨b,hb,eb⟩:=DP.1 (Ct (d:=c0) hpos)
  rw[eb]at hmax
  have hfull:=A08 (hin b hb).1 (hin _ hc0).1 (fun i hi=>hall i ((hin b hb).2 i hi)) hmax
  have hcode:BO (Fs d) 0=b:=by
   show ((EX (Au d) _ _).getD 0 UX).2.1=b
   have:(EX (Au d) (BJ d).1 (Au d).length).getD 0 UX=(((Au d).getD 0 c0).1,((Au d).getD 0 c0).2,YA (Au d) ((0:Nat):Int),(BJ d).1.getD 0 []):=by
    unfold EX
    rw[List.getD_eq_getElem?_getD,List.getElem?_map,List.getElem?_range hpos]
    rfl
   rw[this,eb]
  have hlenT:(Fs d).1.length=(Au d).length:=LE _ _ _
  intro t t0 t1
  refine(Cu hk (by omega) (by show (0:Int)<((Fs d).1.length:Int);omega) t0 t1).2 fun i hi=>?_
  show BK (BO (Fs d) 0) i=true
  rw[hcode]
  refine hfull i (hall i ?_)
  have hcm:=B3 t0 t1
  have hmem:BO (Fs d) t∈Ay (AZ d):=by
   have e:((Fs d).1.map fun t=>t.2.1)=(Au d).map fun x=>x.2:=by
    show ((EX _ _ _).map fun t=>t.2.1)=_
    unfold EX
    rw[List.map_map]
    apply List.ext_getElem
    ·simp
    ·intro i h1 h2
     simp[List.getD_eq_getElem?_getD,show i<(Au d).length by simpa using h1]
   have hcm2:BO (Fs d) t∈(Fs d).1.map fun t=>t.2.1:=hcm
   rw[e]at hcm2
   obtain⟨x,hx,ex⟩:=List.mem_map.1 hcm2
   obtain⟨c,hc,rfl⟩:=DP.1 hx
   rw[←ex]
   exact hc
  exact(hin _ hmem).2 i hi
end
/- Plain: a path as a tree; the most general structure with one value at two paths. -/
section
theorem rD {f:List AL} {p:List Int} {n:Int} (h:FJ f 0 p=some n) (k:Nat):∃m,FJ f 0 (p.take k)=some m:=by
 cases hh:FJ f 0 (p.take k) with
 | none =>
  have:=Om (p.take k) 0 (p.drop k) hh
  rw[List.take_append_drop,h]at this
  cases this
 | some m=>exact⟨m,rfl⟩
end
/- Functions of path: Under, step, At. -/
section
def Fv (l:List (Int×Int)) (e:Int):Int×Bool:=match l with
 | []=>(0,false)
 | a :: l=>if a.1=e then (a.2,true) else Fv l e
theorem Si (e:Int) (l:List (Int×Int)) {k:Nat} (h:k<l.length):Fv (l.drop k) e=if (l.getD k (0,0)).1=e then ((l.getD k (0,0)).2,true) else Fv (l.drop (k+1)) e:=by
 rw[List.drop_eq_getElem_cons h]
 have e:l.getD k (0,0)=l[k]:=by simp[List.getD_eq_getElem?_getD,h]
 rw[e]
 rfl
def iQ:Ae:={ ins:=[HS,T3,T3],pre:=fun(f,n,_,_)=>Gq f∧0≤n∧n<(List.length f:Int),out:=fun(f,n,e,_)=>[.p T3 (Fv (List.getD f n.toNat (0,[])).2 e).1,.p .bool (Fv (List.getD f n.toNat (0,[])).2 e).2] }
theorem xZ:Ag Tryz.prog 82 iQ:=by
 refine AR Tryz.func82 (by kernel_rfl) rfl Tryz.ntmps82 (by decide) (by kernel_rfl) (AF []) AH ?_
 rintro w0 O0 ⟨f,n,e,u⟩ hc-⟨hf,h0,h1⟩
 simp only[iQ,AN]
 repeat'(first|exact trivial|refine eS rfl ?_|refine AB ?_|refine rX [0,1,2,3,6,7,9,15,16,17,18,24] hc ?_ ?_|refine rC ?_ ?_<;>intro AA<;>try(cases AA;done))
 ·exact⟨h0,h1⟩
 ·generalize hx:(f.getD n.toNat (0,[])).2=xs at *
  have hxl:xs.length≤100000:=by
   rw[←hx]
   have hn:n.toNat<f.length:=by
    have h0:(0:Int)≤n:=h0
    have h1:(n:Int)<(List.length f:Int):=h1
    exact(Int.toNat_lt h0).2 h1
   exact hf.2 _ (AE f (0,[]) hn)
  refine AK (ι:={k:Nat//k≤xs.length∧Fv xs e=Fv (xs.drop k) e}) (fun k=>⟨[(2,.p T3 e),(15,.p Vg xs),(16,.p (.int .i64) (xs.length:Int)),(17,.p (.int .i64) (k.1:Int))],[]⟩) (fun k=>xs.length-k.1) ⟨0,Nat.zero_le _,rfl⟩ (AC [] rfl rfl ?_ ?_) (fun k=>?_)
  ·first|exact eN|refine eM ?_
  ·first|exact eN|refine eM ?_
  ·obtain⟨k,hk,he⟩:=k
   repeat'(first|exact trivial|refine eS rfl ?_|refine AB ?_|refine rX [0,1,2,3,6,7,9,15,16,17,18,24] hc ?_ ?_|refine rC ?_ ?_<;>intro AA<;>try(cases AA;done))
   ·exact AA
   ·have hk2:k<xs.length:=Int.ofNat_lt.1 (by assumption)
    have h:=Si e xs hk2
    rw[if_pos AA]at h
    rw[he,h]
    exact AG hc [.tmp 6,.tmp 7] rfl (.inl rfl) (by simp) (by first|exact eR|refine Al ?_)
   ·omega
   ·have hk2:k<xs.length:=Int.ofNat_lt.1 (by assumption)
    have h:=Si e xs hk2
    rw[if_neg AA]at h
    refine⟨⟨k+1,hk2,he.trans h⟩,by simp only;omega,AC [] rfl rfl ?_ ?_⟩
    ·first|exact eN|refine eM ?_
    ·first|exact eN|refine eM ?_
   ·have hk2:xs.drop k=[]:=List.drop_eq_nil_of_le (Int.ofNat_le.1 AA)
    rw[hk2]at he
    rw[he]
    exact AG hc [.tmp 6,.tmp 7] rfl (.inl rfl) (by simp) (by first|exact eR|refine Al ?_;exact⟨rfl,rfl⟩)
end
/- Functions of path: At; of grammarlablaw11: short. -/
section
attribute [local go_sem] iQ
def Gz (f:List AL):Int→List Int→Int×Bool
 | n,[]=>(n,true)
 | n,e :: p=>if (Fv (Bk f n) e).2=true then Gz f (Fv (Bk f n) e).1 p else (0,false)
theorem Da {p:List Int} {k:Nat} (h:k<p.length):p.drop k=p.getD k 0 :: p.drop (k+1):=by
 rw[List.drop_eq_getElem_cons h]
 simp[List.getD_eq_getElem?_getD,h]
theorem Sj {l:List (Int×Int)} {e:Int} (h:(Fv l e).2=true):∃a∈l,a.1=e∧a.2=(Fv l e).1:=by
 induction l with
 | nil=>simp[Fv]at h
 | cons a l ih =>
  simp only[Fv]at h ⊢
  split
  ·rename_i e1
   exact⟨a,by simp,e1,rfl⟩
  ·rename_i e1
   rw[if_neg e1]at h
   obtain⟨b,hb,h1,h2⟩:=ih h
   exact⟨b,by simp[hb],h1,h2⟩
def atS:Ae:={ ins:=[HS,Bz],pre:=fun(f,_,_)=>BA f∧0<List.length f,out:=fun(f,p,_)=>[.p T3 (Gz f 0 p).1,.p .bool (Gz f 0 p).2] }
attribute [local go_sem] atS
theorem A2n:Ag Tryz.prog 56 atS:=by
 refine AR Tryz.func56 (by kernel_rfl) rfl Tryz.ntmps56 (by decide) (by kernel_rfl) (AF [(82,iQ)]) (AD xZ AH) ?_
 rintro w0 O0 ⟨f,p,u⟩ hc ⟨-,⟨hpl,-⟩,-⟩ ⟨hf,h0⟩
 simp only[AO]at hpl
 simp only[atS,AN]
 have hsm:Gq f:=⟨hf.1,fun x hx=>(hf.2 x hx).1⟩
 have h0:0<f.length:=h0
 repeat'(first|exact trivial|refine eS rfl ?_|refine AB ?_|refine rX [0,1,2,4,5,6,8,9,10,11,12,13,14,25] hc ?_ ?_|refine rC ?_ ?_<;>intro AA<;>try(cases AA;done))
 refine AK (ι:={s:Nat×Int//s.1≤p.length∧(0≤s.2∧s.2<(f.length:Int))∧Gz f 0 p=Gz f s.2 (p.drop s.1)}) (fun s=>⟨[(2,.bp 2 [] 0),(6,.p T3 s.1.2),(11,.p Bz p),(12,.p (.int .i64) (p.length:Int)),(13,.p (.int .i64) (s.1.1:Int))],[(2,.box 24 true [.p MZ f])]⟩) (fun s=>p.length-s.1.1) ⟨(0,0),Nat.zero_le _,⟨Int.le_refl 0,by show (0:Int)<_;omega⟩,rfl⟩ (AC [(2,.nm 2)] rfl rfl ?_ ?_) (fun s=>?_)
 ·first|exact eN|refine eM ?_
 ·first|exact eN|refine eM ?_
 ·obtain⟨⟨k,n⟩,hk,hn,he⟩:=s
  simp only at hk hn he ⊢
  repeat'(first|exact trivial|refine eS rfl ?_|refine AB ?_|refine rX [0,1,2,4,5,6,8,9,10,11,12,13,14,25] hc ?_ ?_|refine rC ?_ ?_<;>intro AA<;>try(cases AA;done))
  ·exact AA
  ·exact⟨hsm,hn⟩
  ·have hk2:k<p.length:=Int.ofNat_lt.1 (by assumption)
   have h1:Gz f 0 p=(0,false):=by
    rw[he,Da hk2]
    simp only[Gz]
    rw[if_neg (by rw[AA];simp)]
   exact AG hc [.tmp 4,.tmp 5] rfl (.inl rfl) (by simp) (by rw[h1];first|exact eR|refine Al ?_)
  ·omega
  ·have hk2:k<p.length:=Int.ofNat_lt.1 (by assumption)
   have h1:=he
   rw[Da hk2]at h1
   simp only[Gz]at h1
   rw[if_pos AA]at h1
   obtain⟨a,ha,-,e2⟩:=Sj AA
   have hr:=D6 hf ha
   rw[e2]at hr
   refine⟨⟨(k+1,(Fv (f.getD n.toNat (0,[])).2 (p.getD k 0)).1),hk2,hr,h1⟩,by simp only;omega,AC [(2,.nm 2)] rfl rfl ?_ ?_⟩
   ·first|exact eN|refine eM ?_
   ·first|exact eN|refine eM ?_
  ·have hk2:p.drop k=[]:=List.drop_eq_nil_of_le (Int.ofNat_le.1 AA)
   rw[hk2]at he
   exact AG hc [.tmp 4,.tmp 5] rfl (.inl rfl) (by simp) (by rw[he];first|exact eR|refine Al ?_;exact⟨rfl,rfl⟩)
end
/- Functions of grammarlabref11: Apart, Merge, target. -/
section
def TT (l:List (Int×Int)) (e:Int):Int×Bool:=match l with
 | []=>(0,false)
 | a :: r=>if a.1=e then (a.2,true) else TT r e
end
/- Plain: what grammarlabref11.Close does, step by step. -/
section
/-! Sums -/
/-! The state -/
structure CI (n:Nat) (o:List Int) (ar:List (List (Int×Int))) (W:List (Int×Int)):Prop where
 lo:o.length=n
 la:ar.length=n
 rep:∀k:Nat,k<n→0≤o.getD k 0∧o.getD k 0≤(k:Int)∧o.getD (o.getD k 0).toNat 0=o.getD k 0
 wr:∀w∈W,(0≤w.1∧w.1<(n:Int))∧(0≤w.2∧w.2<(n:Int))
 ta:∀k,∀a∈ar.getD k [],0≤a.2∧a.2<(n:Int)
theorem CI.rng {n:Nat} {o:List Int} {ar:List (List (Int×Int))} {W:List (Int×Int)} (h:CI n o ar W) {x:Int} (x0:0≤x) (x1:x<(n:Int)):0≤o.getD x.toNat 0∧o.getD x.toNat 0<(n:Int)∧o.getD (o.getD x.toNat 0).toNat 0=o.getD x.toNat 0:=by
 obtain⟨h1,h2,h3⟩:=h.rep x.toNat (by omega)
 exact⟨h1,by omega,h3⟩
section
variable {n:Nat} {o:List Int} {ar:List (List (Int×Int))} {W:List (Int×Int)} {x y:Int}
end
end
end Go.Proofs.YtmejfnhmgbhkmabGreat.Fw
