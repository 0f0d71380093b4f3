/- Contracts of the program's and the reference's functions, and the plain laws of what they compute: C1 C2 C9 C10 C11 C12 C13 C3 C4 C5 C6 C7 C8 C14 C15 C16 C17 C18 C19 C20 C21 C22 C23 N1 N2 C24 C25 N3 C26 C27 C28 C29 N4 N5 C30. -/
/- Functions of grammarlabref01: digit, upper, lower, part, named, Name, Feature. -/
import Derived.Test.YtmejfnhmgbhkmabGreatIZJ
set_option linter.unusedVariables false
set_option linter.unusedSimpArgs false
namespace Go.Proofs.YtmejfnhmgbhkmabGreat.Fw
open Go
attribute [local irreducible] Ev
attribute [local go_sem] Wz AN List.toList_toArray Br evG evK S8 E2 Il Fk E6 HG PE LR Cb Ck Kk CB CY frz Y3 Ff Cj Aw Ew BM AV.frz AV.frzs AV.drp AV.drps AV.names AV.namess aq Fh JH Ic P6 Hc BN BU H0 Dm G9 Dn HB HA HC Qj Mb F0 Id Ey Di Qk Nr mT H1 HD Jf Ed Dp QA Cm Dq EO Ns HE Nt Jg Hf Ie Dr DD F7 DF GM Cn EP Co Ds E0 CB CM O9 Np Ln Fc He Hd Je Me PC LQ Jk Ji Ii PD Jj Ij VA Mg Mf AV.trn AV.trns EJ Ca Obj.trn II XS DE Du Dj Dt CF ER Aj lk F9 Fg GJ sV Y2 S9 Y5 PB i8 i9 s6 AV.cells Bu Hy Ma Ih Md B7 LO Ty.cell1 G8 EK DC FF Ll Ec Ib Jd Nm Fe FK LM Pz Qi Jb Hb Uz Wc PA LP CX Hz RV.flat Ty.flat Ty.size St.add upd S7 BR Value.oneCell' JW Ty.dflt G7 My GW M6 List.take_succ_cons List.take_zero List.length_cons XH XI M5 IC J0 GI ID nQ E7 Kt Ku Kv Kw OC OD Kx HK Qz Option.map_some Option.map_none Option.bind_some Option.getD_some Option.getD_none Option.isNone_none Option.isNone_some Bool.and_true Bool.true_and Bool.and_false Bool.false_and Bool.not_true Bool.not_false if_true if_false List.length_cons List.length_nil and_true true_and and_self List.all_cons List.all_nil List.append_nil List.nil_append List.cons_append List.getElem?_cons_zero List.getElem?_cons_succ List.getElem?_nil List.map_cons List.map_nil List.set_cons_zero List.set_cons_succ List.isEmpty_nil List.isEmpty_cons decide_true decide_false beq_self_eq_true bne_self_eq_false Nat.zero_add Nat.add_zero Nat.sub_zero Int.toNat_natCast Int.toNat_zero Int.toNat_one List.take_length List.length_append List.length_singleton true_or or_true or_self false_or or_false Ty.agg.injEq Ty.slice.injEq Ty.prod.injEq Ty.int.injEq Option.some.injEq beq_iff_eq JX evMG evMQ nT GY Jx Bj IB GC PX H9 GX HL It JN Ly LX Lz QD Jy M0 M2 IA AW Ad Op.operands Call.operands List.filterMap_cons List.filterMap_nil List.append_eq Bool.cond_false_right Bool.cond_true_left cond_true cond_false implies_true decide_eq_true_eq beq_true beq_false Bool.or_true Bool.or_false Bool.true_or Bool.false_or Option.isSome_some Ex Kl ET GK U0 Mc Ez FM FL HF GL Ig Jh TA Y4 Nq zG Ik E1 Fd H4 A1 XJ List.drop_zero DJ GZ VY Cs J1 Bn AV.fgt AV.fgts Obj.fgt Af Ap AW EW L1 Bx IE List.any_cons List.any_nil ZV XM VZ XN J2 OI qs List.flatMap_cons List.flatMap_nil List.cons_append tn Vb J5 List.take_succ_cons List.drop_succ_cons Ve Gc Be cC K2 Cd Cz Ar E5 Ir B1 EV DI GV HJ F1 Hj
attribute [local go_sem] ty1 ty2 ty3 ty4 ty5 ty9 uJ uK uL uM uN uO uP uQ uR uS uT uU uV uW uX uY uZ u3 u4 u5 u6 u7 u9 vA vB vC vD vE vF vG vH vI vJ vK vL vM vN vO vP vQ vR vS vT vU vV vW vX vY vZ v4 v5 v6 v7 v8 v9 wA wB wC wD wE wF wG wH wI wJ wK wL wM wN wO wP wQ wR wS wT wU cH cI cJ cK cL cM cN cO cQ cR cS cU cV cW cX cZ c6 c7 c8 c9 dA dB dC dD dE dF dG dH dI dJ dK dL dM dN dP dQ dR dS dT dU dV dW dX dY dZ d3 d4 d5 d6 d7 d8 d9 eA eB eC eD eE eF eG eH eI eJ eK eL eO eP eQ eU eW eX eY eZ e7 e9 fA fB fC fD fE fF fG fH fI fJ fK fL fM fN fO fP fQ fR fS fT fU fV fW fX fY fZ f3 f4 f5 f8 f9 gA gB gC gD gE gF
set_option maxRecDepth 100000
set_option maxHeartbeats 4000000
section
def Hn (a b c:Int):Bool:=decide (a≤c)&&decide (c≤b)
def Ri:Ae:={ ins:=[.int .u8],pre:=fun _=>True,out:=fun(c,_)=>[.p .bool (Hn 48 57 c)] }
attribute [local go_sem] Ri
def Vj:Ae:={ ins:=[.int .u8],pre:=fun _=>True,out:=fun(c,_)=>[.p .bool (Hn 65 90 c)] }
attribute [local go_sem] Vj
def Vk:Ae:={ ins:=[.int .u8],pre:=fun _=>True,out:=fun(c,_)=>[.p .bool (Hn 97 122 c)] }
attribute [local go_sem] Vk
theorem Xh:Ag Tryz.prog 160 Ri:=by
 refine AR Tryz.func160 (by kernel_rfl) rfl Tryz.ntmps160 (by decide) (by kernel_rfl) (AF []) AH ?_
 rintro w0 O0 ⟨c,u⟩ hc - -
 simp only[Ri,AN]
 repeat'(first|exact trivial|refine eS rfl ?_|refine AB ?_|refine rX [0,2] hc ?_ ?_|refine rC ?_ ?_<;>intro AA<;>try(cases AA;done))
 exact AG hc [.tmp 2] rfl (.inl rfl) (by simp) (by unfold Hn;first|exact eR|refine Al ?_)
theorem o6:Ag Tryz.prog 162 Vj:=by
 refine AR Tryz.func162 (by kernel_rfl) rfl Tryz.ntmps162 (by decide) (by kernel_rfl) (AF []) AH ?_
 rintro w0 O0 ⟨c,u⟩ hc - -
 simp only[Vj,AN]
 repeat'(first|exact trivial|refine eS rfl ?_|refine AB ?_|refine rX [0,2] hc ?_ ?_|refine rC ?_ ?_<;>intro AA<;>try(cases AA;done))
 exact AG hc [.tmp 2] rfl (.inl rfl) (by simp) (by unfold Hn;first|exact eR|refine Al ?_)
theorem o7:Ag Tryz.prog 163 Vk:=by
 refine AR Tryz.func163 (by kernel_rfl) rfl Tryz.ntmps163 (by decide) (by kernel_rfl) (AF []) AH ?_
 rintro w0 O0 ⟨c,u⟩ hc - -
 simp only[Vk,AN]
 repeat'(first|exact trivial|refine eS rfl ?_|refine AB ?_|refine rX [0,2] hc ?_ ?_|refine rC ?_ ?_<;>intro AA<;>try(cases AA;done))
 exact AG hc [.tmp 2] rfl (.inl rfl) (by simp) (by unfold Hn;first|exact eR|refine Al ?_)
def Rj (c:Int) (big:Bool):Bool:=Hn 48 57 c||c==45||big&&Hn 65 90 c||!big&&Hn 97 122 c
def gI:Ae:={ ins:=[.int .u8,.bool],pre:=fun _=>True,out:=fun(c,b,_)=>[.p .bool (Rj c b)] }
attribute [local go_sem] gI
theorem wW:Ag Tryz.prog 161 gI:=by
 refine AR Tryz.func161 (by kernel_rfl) rfl Tryz.ntmps161 (by decide) (by kernel_rfl) (AF [(160,Ri),(162,Vj),(163,Vk)]) (AD Xh (AD o6 (AD o7 AH))) ?_
 rintro w0 O0 ⟨c,b,u⟩ hc - -
 simp only[gI,AN]
 repeat'(first|exact trivial|refine eS rfl ?_|refine AB ?_|refine rX [0,1,4] hc ?_ ?_|refine rC ?_ ?_<;>intro AA<;>try(cases AA;done))
 exact AG hc [.tmp 4] rfl (.inl rfl) (by simp) (by unfold Rj;first|exact eR|refine Al ?_)
abbrev z9 (s:ByteArray) (i:Nat):Int:=((s.data.getD i 0).toNat:Int)
def OP (s:ByteArray):Bool:=decide ((s.size:Int)<1)||decide (32<(s.size:Int))||Hn 48 57 (z9 s 0)||z9 s 0==45
def EL (s:ByteArray) (big:Bool):Bool:=!OP s&&(List.range s.size).all fun i=>Rj (z9 s i) big
def Rk:Ae:={ ins:=[T9,.bool],pre:=fun _=>True,out:=fun(s,b,_)=>[.p .bool (EL s b)] }
attribute [local go_sem] Rk
theorem Xi:Ag Tryz.prog 159 Rk:=by
 refine AR Tryz.func159 (by kernel_rfl) rfl Tryz.ntmps159 (by decide) (by kernel_rfl) (AF [(160,Ri),(161,gI)]) (AD Xh (AD wW AH)) ?_
 rintro w0 O0 ⟨s,b,u⟩ hc - -
 simp only[Rk,AN]
 repeat'(first|exact trivial|refine eS rfl ?_|refine AB ?_|refine rX [0,1,4,5,23,27,35] hc ?_ ?_|refine rC ?_ ?_<;>intro AA<;>try(cases AA;done))
 ·constructor
  ·intro h
   simp only[Bool.not_eq_true',Bool.or_eq_false_iff,decide_eq_false_iff_not]at h
   have:1≤(s.size:Int):=by omega
   exact this
  ·intro h
   simp only[Bool.not_eq_true',Bool.or_eq_false_iff,decide_eq_false_iff_not]at h
   have:1≤(s.size:Int):=by omega
   exact this
 ·have h1:OP s=true:=by
   unfold OP z9
   simp only[Bool.or_eq_true,decide_eq_true_eq,beq_iff_eq]
   exact AA
  have h2:EL s b=false:=by unfold EL;rw[h1];rfl
  exact AG hc [.tmp 4] rfl (.inl rfl) (by simp) (by rw[h2];first|exact eR|refine Al ?_)
 ·have h1:OP s=false:=by
   unfold OP z9
   simp only[Bool.or_eq_false_iff,decide_eq_false_iff_not,beq_eq_false_iff_ne]
   exact⟨⟨⟨by omega,by omega⟩,AA.1.2⟩,AA.2⟩
  have hsz:s.size≤32:=by omega
  refine AK (ι:={k:Nat//k≤s.size∧((List.range k).all fun i=>Rj (z9 s i) b)=true}) (fun k=>⟨[(0,.p T9 s),(1,.p .bool b),(5,.p (.int .i64) (k.1:Int))],[]⟩) (fun k=>s.size-k.1) ⟨0,by simp⟩ (AC [] rfl rfl ?_ ?_) (fun k=>?_)
  ·first|exact eN|refine eM ?_
  ·first|exact eN|refine eM ?_
  ·obtain⟨k,hk,hall⟩:=k
   repeat'(first|exact trivial|refine eS rfl ?_|refine AB ?_|refine rX [0,1,4,5,23,27,35] hc ?_ ?_|refine rC ?_ ?_<;>intro AA<;>try(cases AA;done))
   ·exact AA
   ·have hk2:k<s.size:=by omega
    have h2:EL s b=false:=by
     unfold EL
     rw[Bool.and_eq_false_iff]
     refine .inr (Bool.eq_false_iff.2 fun h=>?_)
     have:=List.all_eq_true.1 h k (List.mem_range.2 hk2)
     rw[show Rj (z9 s k) b=false from AA]at this
     cases this
    exact AG hc [.tmp 4] rfl (.inl rfl) (by simp) (by rw[h2];first|exact eR|refine Al ?_)
   ·omega
   ·have hk2:k<s.size:=by omega
    refine⟨⟨k+1,by omega,?_⟩,by simp only;omega,AC [] rfl rfl ?_ ?_⟩
    ·rw[List.range_succ,List.all_append,hall]
     rw[Bool.true_and,List.all_cons,List.all_nil,Bool.and_true]
     exact AA
    ·first|exact eN|refine eM ?_
    ·first|exact eN|refine eM ?_
   ·have hk2:k=s.size:=by omega
    subst hk2
    have h2:EL s b=true:=by unfold EL;rw[h1,hall];rfl
    exact AG hc [.tmp 4] rfl (.inl rfl) (by simp) (by rw[h2];first|exact eR|refine Al ?_)
def gJ:Ae:={ ins:=[T9],pre:=fun _=>True,out:=fun(s,_)=>[.p .bool (EL s false)] }
def ND:Ae:={ ins:=[T9],pre:=fun _=>True,out:=fun(s,_)=>[.p .bool (EL s true)] }
theorem wX:Ag Tryz.prog 150 gJ:=by
 refine AR Tryz.func150 (by kernel_rfl) rfl Tryz.ntmps150 (by decide) (by kernel_rfl) (AF [(159,Rk)]) (AD Xi AH) ?_
 rintro w0 O0 ⟨s,u⟩ hc - -
 simp only[gJ,AN]
 repeat'(first|exact trivial|refine eS rfl ?_|refine AB ?_|refine rX [0,2] hc ?_ ?_|refine rC ?_ ?_<;>intro AA<;>try(cases AA;done))
 exact AG hc [.tmp 2] rfl (.inl rfl) (by simp) (by first|exact eR|refine Al ?_)
theorem Zc:Ag Tryz.prog 149 ND:=by
 refine AR Tryz.func149 (by kernel_rfl) rfl Tryz.ntmps149 (by decide) (by kernel_rfl) (AF [(159,Rk)]) (AD Xi AH) ?_
 rintro w0 O0 ⟨s,u⟩ hc - -
 simp only[ND,AN]
 repeat'(first|exact trivial|refine eS rfl ?_|refine AB ?_|refine rX [0,2] hc ?_ ?_|refine rC ?_ ?_<;>intro AA<;>try(cases AA;done))
 exact AG hc [.tmp 2] rfl (.inl rfl) (by simp) (by first|exact eR|refine Al ?_)
end
/- Functions of grammarlabref03: Among, find, Put. -/
section
theorem K3 {α:Type} (l:List α) (d:α) (p:α→Bool) {k:Nat} (h:k<l.length):(l.take (k+1)).any p=((l.take k).any p||p (l.getD k d)):=by
 rw[Ab l d h,List.any_append];simp
theorem Fl {α:Type} (l:List α) (d:α) (p:α→Bool) {k:Nat} (h:k<l.length) (hp:p (l.getD k d)=true):l.any p=true :=
 List.any_eq_true.2 ⟨_,AE l d h,hp⟩
def AY (l:List ByteArray) (s:ByteArray):Bool:=l.any fun x=>Ak x s
def Dg:Ae:={ ins:=[Bl,T9],pre:=fun _=>True,out:=fun(l,n,_)=>[.p .bool (AY l n)],lend:=true }
attribute [local go_sem] Dg
theorem Fm:Ag Tryz.prog 131 Dg:=by
 refine AR Tryz.func131 (by kernel_rfl) rfl Tryz.ntmps131 (by decide) (by kernel_rfl) (AF []) AH ?_
 rintro w0 O0 ⟨l,n,u⟩ hc ⟨⟨hl,-⟩,-⟩ -
 simp only[AO]at hl
 simp only[Dg,AN]
 repeat'(first|exact trivial|refine eS rfl ?_|refine AB ?_|refine rX [0,1,4,5,9,17] hc ?_ ?_|refine rC ?_ ?_<;>intro AA<;>try(cases AA;done))
 refine AK (ι:={k:Nat//k≤l.length∧(l.take k).any (fun x=>Ak x n)=false}) (fun k=>⟨[(0,.p Bl l),(1,.p T9 n),(5,.p (.int .i64) (k.1:Int))],[]⟩) (fun k=>l.length-k.1) ⟨0,by simp⟩ (AC [] rfl rfl ?_ ?_) (fun k=>?_)
 ·first|exact eN|refine eM ?_
 ·first|exact eN|refine eM ?_
 ·obtain⟨k,hk,hany⟩:=k
  repeat'(first|exact trivial|refine eS rfl ?_|refine AB ?_|refine rX [0,1,4,5,9,17] hc ?_ ?_|refine rC ?_ ?_<;>intro AA<;>try(cases AA;done))
  ·exact eV
  ·have hkl:k<l.length:=by exact eV
   have h1:AY l n=true:=Fl l ByteArray.empty _ hkl AA
   exact AG hc [.tmp 4] rfl (.inl rfl) (by simp) (by rw[h1];first|exact eR|refine Al ?_)
  ·exact eV
  ·have hkl:k<l.length:=by exact eV
   refine⟨⟨k+1,by exact eV,?_⟩,by simp only;exact eV,AC [] rfl rfl ?_ ?_⟩
   ·rw[K3 l ByteArray.empty _ hkl,hany];exact AA
   ·first|exact eN|refine eM ?_
   ·first|exact eN|refine eM ?_
  ·have hk:l.take k=l:=List.take_of_length_le (by exact eV)
   rw[hk]at hany
   have h1:AY l n=false:=hany
   exact AG hc [.tmp 4] rfl (.inl rfl) (by simp) (by rw[h1];first|exact eR|refine Al ?_)
def mO (l:List ByteArray) (s:ByteArray):Nat:=(l.takeWhile fun x=>F6 x s).length
theorem o8 {α:Type} (p:α→Bool) (d:α):∀(l:List α) (k:Nat),k≤(l.takeWhile p).length→((k<l.length∧p (l.getD k d)=true)↔k+1≤(l.takeWhile p).length)
 | [],k,h=>by simp
 | x :: l,k,h=>by
  by_cases hx:p x=true
  ·rw[List.takeWhile_cons,if_pos hx]at h ⊢
   cases k with
   | zero=>simp[hx]
   | succ k =>
    have:=o8 p d l k (by simpa using h)
    simpa using this
  ·rw[List.takeWhile_cons,if_neg hx]at h ⊢
   have hk:k=0:=by simpa using h
   subst hk
   simp[hx]
theorem y4 {α:Type} (p:α→Bool) (l:List α):(l.takeWhile p).length≤l.length:=(List.takeWhile_sublist p).length_le
def Dh (l:List ByteArray) (s:ByteArray):List ByteArray :=
 if (decide (mO l s<l.length)&&Ak (l.getD (mO l s) ByteArray.empty) s)=true then l else l.take (mO l s)++[s]++l.drop (mO l s)
def L7:Ae:={ ins:=[Bl,T9],pre:=fun(l,_,_)=>List.length l≤100000,out:=fun(l,n,_)=>[.p Bl (Dh l n)] }
attribute [local go_sem] L7
theorem OQ:Ag Tryz.prog 122 L7:=by
 refine AR Tryz.func122 (by kernel_rfl) rfl Tryz.ntmps122 (by decide) (by kernel_rfl) (AF []) AH ?_
 rintro w0 O0 ⟨l,n,u⟩ hc-hl
 have hl:l.length≤100000:=hl
 simp only[L7,AN]
 repeat'(first|exact trivial|refine eS rfl ?_|refine AB ?_|refine rX [0,1,4,5,6,18,32] hc ?_ ?_|refine rC ?_ ?_<;>intro AA<;>try(cases AA;done))
 refine AK (ι:={k:Nat//k≤mO l n}) (fun k=>⟨[(0,.p Bl l),(1,.p T9 n),(5,.raw (.slice none 0 0)),(6,.p (.int .i64) (k.1:Int))],[]⟩) (fun k=>l.length-k.1) ⟨0,by simp⟩ (AC [] rfl rfl ?_ ?_) (fun k=>?_)
 ·first|exact eN|refine eM ?_
 ·first|exact eN|refine eM ?_
 ·obtain⟨k,hk⟩:=k
  have hle:=y4 (fun x=>F6 x n) l
  have htw:=o8 (fun x=>F6 x n) ByteArray.empty l k hk
  simp only
  repeat'(first|exact trivial|refine eS rfl ?_|refine AB ?_|refine rX [0,1,4,5,6,18,32] hc ?_ ?_|refine rC ?_ ?_<;>intro AA<;>try(cases AA;done))
  ·exact fun h=>h
  ·have h1:k<l.length∧F6 (l.getD k ByteArray.empty) n=true:=⟨by exact eV,AA.2⟩
   exact eV
  ·have h1:k<l.length∧F6 (l.getD k ByteArray.empty) n=true:=⟨by exact eV,AA.2⟩
   refine⟨⟨k+1,htw.1 h1⟩,by simp only;omega,AC [] rfl rfl ?_ ?_⟩
   ·first|exact eN|refine eM ?_
   ·first|exact eN|refine eM ?_
  ·exact fun h=>h
  ·rename_i hend
   have hk2:k=mO l n:=by
    refine Nat.le_antisymm hk (Nat.le_of_not_lt fun h=>?_)
    have:=htw.2 h
    rw[hend (Int.ofNat_lt.2 this.1)]at this
    cases this.2
   have h2:Dh l n=l:=by
    unfold Dh
    rw[←hk2,if_pos]
    rw[Bool.and_eq_true,decide_eq_true_eq]
    exact⟨Int.ofNat_lt.1 AA.1,AA.2⟩
   exact AG hc [.tmp 4] rfl (.inl rfl) (by simp) (by rw[h2];first|exact eR|refine Al ?_)
  ·have h3:=List.length_take_le k l
   have h4:k≤l.length:=Nat.le_trans hk hle
   simp only[AO]
   exact⟨Int.ofNat_le.2 h4,by dsimp only[Ty.den]at *;omega⟩
  ·have h3:=List.length_take_le k l
   have h4:k≤l.length:=Nat.le_trans hk hle
   simp only[AO]
   dsimp only[Ty.den]at *
   omega
  ·have h3:=List.length_take_le k l
   have h4:k≤l.length:=Nat.le_trans hk hle
   have h5:(l.drop k).length≤l.length:=by rw[List.length_drop];omega
   simp only[AO]
   exact⟨Int.ofNat_le.2 h4,by dsimp only[Ty.den]at *;omega⟩
  ·rename_i hend
   have hk2:k=mO l n:=by
    refine Nat.le_antisymm hk (Nat.le_of_not_lt fun h=>?_)
    have:=htw.2 h
    rw[hend (Int.ofNat_lt.2 this.1)]at this
    cases this.2
   have h2:Dh l n=l.take k++[n]++l.drop k:=by
    unfold Dh
    rw[←hk2,if_neg]
    rw[Bool.and_eq_true,decide_eq_true_eq]
    intro h
    rw[AA (Int.ofNat_lt.2 h.1)]at h
    cases h.2
   have h4:k≤l.length:=Nat.le_trans hk hle
   have hlen:(l.take k).length+1+(l.drop k).length=(l.take k++[n]++l.drop k).length:=by simp only[List.length_append,List.length_singleton]
   rw[hlen,←h2]
   refine GD [38] ?_
   exact AG hc [.tmp 4] rfl (.inl rfl) (by simp) (by first|exact eR|refine Al ?_)
end
/- Functions of grammarlabref02: word, Normal. -/
section
def FG (b:List Int) (i:Int):Int:=if i<b.length then b.getD i.toNat 0 else 0
def Rl:Ae:={ ins:=[A7,T3],pre:=fun(_,i,_)=>(0:Int)≤i,out:=fun(b,i,_)=>[.p NC (FG b i)],lend:=true }
attribute [local go_sem] Rl
theorem gK:Ag Tryz.prog 140 Rl:=by
 refine AR Tryz.func140 (by kernel_rfl) rfl Tryz.ntmps140 (by decide) (by kernel_rfl) (AF []) AH ?_
 rintro w0 O0 ⟨b,i,u⟩ hc-hi
 simp only[Rl,AN]
 repeat'(first|exact trivial|refine eS rfl ?_|refine AB ?_|refine rX [0,1,4,8] hc ?_ ?_|refine rC ?_ ?_<;>intro AA<;>try(cases AA;done))
 ·exact⟨hi,AA⟩
 ·have h1:FG b i=b.getD i.toNat 0:=by unfold FG;rw[if_pos AA]
  exact AG hc [.tmp 4] rfl (.inl rfl) (by simp) (by rw[h1];first|exact eR|refine Al ?_)
 ·have h1:FG b i=0:=by unfold FG;rw[if_neg (Int.not_lt.2 AA)]
  exact AG hc [.tmp 4] rfl (.inl rfl) (by simp) (by rw[h1];first|exact eR|refine Al ?_)
def CN (b:List Int):Nat→Nat
 | 0=>0
 | n+1=>if b.getD n 0=0 then CN b n else n+1
def BB (b:List Int):List Int:=b.take (CN b b.length)
theorem Rm (b:List Int):∀n,CN b n≤n
 | 0=>Nat.le_refl _
 | n+1=>by
  unfold CN
  split
  ·exact Nat.le_succ_of_le (Rm b n)
  ·exact Nat.le_refl _
def E9:Ae:={ ins:=[A7],pre:=fun(b,_)=>List.length b≤100000,out:=fun(b,_)=>[.p A7 (BB b)] }
attribute [local go_sem] E9
theorem K4:Ag Tryz.prog 124 E9:=by
 refine AR Tryz.func124 (by kernel_rfl) rfl Tryz.ntmps124 (by decide) (by kernel_rfl) (AF []) AH ?_
 rintro w0 O0 ⟨b,u⟩ hc-hb
 have hb:b.length≤100000:=hb
 simp only[E9,AN]
 repeat'(first|exact trivial|refine eS rfl ?_|refine AB ?_|refine rX [0,2,3,15] hc ?_ ?_|refine rC ?_ ?_<;>intro AA<;>try(cases AA;done))
 refine AK (ι:={n:Nat//n≤b.length∧CN b n=CN b b.length}) (fun n=>⟨[(0,.p A7 b),(3,.p (.int .i64) (n.1:Int))],[]⟩) (fun n=>n.1) ⟨b.length,Nat.le_refl _,rfl⟩ (AC [] rfl rfl ?_ ?_) (fun n=>?_)
 ·first|exact eN|refine eM ?_
 ·first|exact eN|refine eM ?_
 ·obtain⟨n,hn,hg⟩:=n
  simp only
  repeat'(first|exact trivial|refine eS rfl ?_|refine AB ?_|refine rX [0,2,3,15] hc ?_ ?_|refine rC ?_ ?_<;>intro AA<;>try(cases AA;done))
  ·constructor
   ·exact eV
   ·intro h
    refine⟨?_,?_⟩<;>exact eV
  ·exact eV
  ·obtain⟨h1,h2⟩:=AA
   obtain⟨m,rfl⟩:∃m,n=m+1:=⟨n-1,by omega⟩
   have e:(((m+1:Nat):Int)-1)=(m:Int):=by omega
   rw[e]at h2
   have h2:b.getD m 0=0:=h2
   have hg2:CN b m=CN b b.length:=by
    rw[←hg]
    show _=if b.getD m 0=0 then CN b m else m+1
    rw[if_pos h2]
   refine⟨⟨m,by omega,hg2⟩,by simp,AC [] rfl rfl ?_ ?_⟩
   ·first|exact eN|refine eM ?_
   ·simp only[e]
    first|exact eN|refine eM ?_
  ·have h3:=List.length_take_le n b
   simp only[AO]
   exact⟨Int.ofNat_le.2 hn,by dsimp only[Ty.den]at *;omega⟩
  ·have hend:CN b n=n:=by
    cases n with
    | zero=>rfl
    | succ m =>
     have e:(((m+1:Nat):Int)-1)=(m:Int):=by omega
     rw[e]at AA
     have h2:=AA (by omega)
     have h2:¬b.getD m 0=0:=h2
     show (if b.getD m 0=0 then CN b m else m+1)=m+1
     rw[if_neg h2]
   have h1:BB b=b.take n:=by unfold BB;rw[←hg,hend]
   rw[←h1]
   refine GD [18] ?_
   exact AG hc [.tmp 2] rfl (.inl rfl) (by simp) (by first|exact eR|refine Al ?_)
end
/- Functions of grammarlabref02: Has. -/
section
attribute [local go_sem] Rl E9
def o9 (w:Int) (r:Int):Bool:=Bm .and .u64 (Lm .u64 w r) 1==1
def Rn (b:List Int) (i:Int):Bool:=if (decide (i<0)||decide ((b.length:Int)≤i.tdiv 64))=true then false else o9 (b.getD (i.tdiv 64).toNat 0) (i.tmod 64)
def Zd:Ae:={ ins:=[A7,T3],pre:=fun _=>True,out:=fun(b,i,_)=>[.p .bool (Rn b i)],lend:=true }
theorem A00 {w:Int} (h0:0≤w) (r:Int):0≤Lm .u64 w r∧Lm .u64 w r≤w:=by
 unfold Lm
 have hp:(0:Int)<2 ^ (min r.toNat IntKind.u64.bits):=Int.pow_pos (by decide)
 rw[Int.fdiv_eq_ediv_of_nonneg _ (Int.le_of_lt hp)]
 exact⟨Int.ediv_nonneg h0 (Int.le_of_lt hp),Int.ediv_le_self _ h0⟩
theorem pA:Ag Tryz.prog 135 Zd:=by
 refine AR Tryz.func135 (by kernel_rfl) rfl Tryz.ntmps135 (by decide) (by kernel_rfl) (AF []) AH ?_
 rintro w0 O0 ⟨b,i,u⟩ hc ⟨⟨hbl,hbe⟩,hik,-⟩ -
 have hik:JG .i64 i:=hik
 rw[Kx]at hik
 have htd:0≤i→Int.tdiv i 64=i / 64∧Int.tmod i 64=i % 64:=fun h=>⟨Int.tdiv_eq_ediv_of_nonneg h,Int.tmod_eq_emod_of_nonneg h⟩
 simp only[Zd,AN]
 repeat'(first|exact trivial|refine eS rfl ?_|refine AB ?_|refine rX [0,1,4,13] hc ?_ ?_|refine rC ?_ ?_<;>intro AA<;>try(cases AA;done))
 ·intro h
  have h0:0≤i:=by simpa using h
  obtain⟨e1,e2⟩:=htd h0
  rw[e1]
  refine⟨by decide,?_,?_⟩<;>exact eV
 ·have h1:Rn b i=false:=by
   unfold Rn
   rw[if_pos]
   rw[Bool.or_eq_true,decide_eq_true_eq,decide_eq_true_eq]
   exact AA
  exact AG hc [.tmp 4] rfl (.inl rfl) (by simp) (by rw[h1];first|exact eR|refine Al ?_)
 ·obtain⟨h0,hlt⟩:=AA
  obtain⟨e1,e2⟩:=htd h0
  rw[e1]at hlt
  have hw:JG .u64 (b.getD (i / 64).toNat 0):=hbe _ (AE b 0 (by exact eV))
  rw[HK]at hw
  have hs:=A00 hw.1 (i % 64)
  rw[e1,e2]
  refine⟨⟨by decide,by exact eV,by exact eV⟩,⟨by exact eV,by exact eV⟩,⟨by decide,by exact eV,by exact eV⟩,⟨by exact eV,by exact eV⟩,by exact eV,hs.1,Int.le_trans hs.2 hw.2⟩
 ·have h1:Rn b i=o9 (b.getD (i.tdiv 64).toNat 0) (i.tmod 64):=by
   unfold Rn
   rw[if_neg]
   rw[Bool.or_eq_true,decide_eq_true_eq,decide_eq_true_eq]
   rintro (h|h)<;>omega
  exact AG hc [.tmp 4] rfl (.inl rfl) (by simp) (by rw[h1];unfold o9;first|exact eR|refine Al ?_)
end
/- Functions of grammarlabref02: And, Minus. -/
section
attribute [local go_sem] Rl E9
def QQX (op:BinOp) (a b:List Int) (n:Nat):List Int:=(List.range n).map fun i=>Bm op .u64 (a.getD i 0) (FG b (i:Int))
theorem Dx (op:BinOp) (a b:List Int) (n:Nat):(QQX op a b n).length=n:=by simp[QQX]
theorem UC (op:BinOp) (a b:List Int) (n:Nat):QQX op a b (n+1)=QQX op a b n++[Bm op .u64 (a.getD n 0) (FG b (n:Int))]:=by simp[QQX,List.range_succ]
def FE (a b:List Int):List Int:=BB (QQX .and a b a.length)
def Xj:Ae:={ ins:=[A7,A7],pre:=fun(a,_,_)=>List.length a≤100000,out:=fun(a,b,_)=>[.p A7 (FE a b)] }
theorem Ze:Ag Tryz.prog 100 Xj:=by
 refine AR Tryz.func100 (by kernel_rfl) rfl Tryz.ntmps100 (by decide) (by kernel_rfl) (AF [(140,Rl),(124,E9)]) (AD gK (AD K4 AH)) ?_
 rintro w0 O0 ⟨a,b,u⟩ hc-ha
 have ha:a.length≤100000:=ha
 simp only[Xj,AN]
 repeat'(first|exact trivial|refine eS rfl ?_|refine AB ?_|refine rX [0,1,4,5,6,10] hc ?_ ?_|refine rC ?_ ?_<;>intro AA<;>try(cases AA;done))
 refine AK (ι:={n:Nat//n≤a.length}) (fun n=>⟨[(0,.p A7 a),(1,.p A7 b),(5,.sr 23 NC 0 n.1),(6,.p (.int .i64) (n.1:Int))],[(23,.arr 165 NC (QQX .and a b n.1))]⟩) (fun n=>a.length-n.1) ⟨0,Nat.zero_le _⟩ (AC [(23,.nil)] rfl rfl ?_ ?_) (fun n=>?_)
 ·first|exact eN|refine eM ?_
  rfl
 ·first|exact eN|refine eM ?_
 ·obtain⟨n,hn⟩:=n
  have hz:=Dx .and a b n
  have hs:=UC .and a b n
  simp only
  repeat'(first|exact trivial|refine eS rfl ?_|refine AB ?_|refine rX [0,1,4,5,6,10] hc ?_ ?_|refine rC ?_ ?_<;>intro AA<;>try(cases AA;done))
  ·refine⟨AA,?_⟩
   simp only[AO]
   dsimp only[Ty.den]at *
   omega
  ·exact eV
  ·have hn2:n<a.length:=by exact eV
   refine⟨⟨n+1,by omega⟩,by simp only;omega,AC [(23,.nm 23)] rfl rfl ?_ ?_⟩
   ·simp only[hs]
    first|exact eN|refine eM ?_
    rw[List.take_of_length_le (by rw[hz];exact Nat.le_refl _)]
   ·first|exact eN|refine eM ?_
  ·have hn2:n=a.length:=by exact eV
   subst hn2
   refine GD [23] ?_
   have ht:(QQX .and a b a.length).take a.length=QQX .and a b a.length:=List.take_of_length_le (by rw[Dx];exact Nat.le_refl _)
   repeat'(first|exact trivial|refine eS rfl ?_|refine AB ?_|refine rX [0,1,4,5,6,10] hc ?_ ?_|refine rC ?_ ?_<;>intro AA<;>try(cases AA;done))
   ·rw[ht,Dx];exact ha
   ·rw[ht]
    exact AG hc [.tmp 4] rfl (.inl rfl) (by simp) (by unfold FE;first|exact eR|refine Al ?_)
def OT (a b:List Int):List Int:=BB (QQX .andNot a b a.length)
def Vl:Ae:={ ins:=[A7,A7],pre:=fun(a,_,_)=>List.length a≤100000,out:=fun(a,b,_)=>[.p A7 (OT a b)] }
attribute [local go_sem] Vl
theorem pB:Ag Tryz.prog 156 Vl:=by
 refine AR Tryz.func156 (by kernel_rfl) rfl Tryz.ntmps156 (by decide) (by kernel_rfl) (AF [(140,Rl),(124,E9)]) (AD gK (AD K4 AH)) ?_
 rintro w0 O0 ⟨a,b,u⟩ hc-ha
 have ha:a.length≤100000:=ha
 simp only[Vl,AN]
 repeat'(first|exact trivial|refine eS rfl ?_|refine AB ?_|refine rX [0,1,4,5,6,10] hc ?_ ?_|refine rC ?_ ?_<;>intro AA<;>try(cases AA;done))
 refine AK (ι:={n:Nat//n≤a.length}) (fun n=>⟨[(0,.p A7 a),(1,.p A7 b),(5,.sr 23 NC 0 n.1),(6,.p (.int .i64) (n.1:Int))],[(23,.arr 165 NC (QQX .andNot a b n.1))]⟩) (fun n=>a.length-n.1) ⟨0,Nat.zero_le _⟩ (AC [(23,.nil)] rfl rfl ?_ ?_) (fun n=>?_)
 ·first|exact eN|refine eM ?_
  rfl
 ·first|exact eN|refine eM ?_
 ·obtain⟨n,hn⟩:=n
  have hz:=Dx .andNot a b n
  have hs:=UC .andNot a b n
  simp only
  repeat'(first|exact trivial|refine eS rfl ?_|refine AB ?_|refine rX [0,1,4,5,6,10] hc ?_ ?_|refine rC ?_ ?_<;>intro AA<;>try(cases AA;done))
  ·refine⟨AA,?_⟩
   simp only[AO]
   dsimp only[Ty.den]at *
   omega
  ·exact eV
  ·have hn2:n<a.length:=by exact eV
   refine⟨⟨n+1,by omega⟩,by simp only;omega,AC [(23,.nm 23)] rfl rfl ?_ ?_⟩
   ·simp only[hs]
    first|exact eN|refine eM ?_
    rw[List.take_of_length_le (by rw[hz];exact Nat.le_refl _)]
   ·first|exact eN|refine eM ?_
  ·have hn2:n=a.length:=by exact eV
   subst hn2
   refine GD [23] ?_
   have ht:(QQX .andNot a b a.length).take a.length=QQX .andNot a b a.length:=List.take_of_length_le (by rw[Dx];exact Nat.le_refl _)
   repeat'(first|exact trivial|refine eS rfl ?_|refine AB ?_|refine rX [0,1,4,5,6,10] hc ?_ ?_|refine rC ?_ ?_<;>intro AA<;>try(cases AA;done))
   ·rw[ht,Dx];exact ha
   ·rw[ht]
    exact AG hc [.tmp 4] rfl (.inl rfl) (by simp) (by unfold OT;first|exact eR|refine Al ?_)
def Eb (a b:List Int):Bool:=((OT a b).length:Int)==0
def K5:Ae:={ ins:=[A7,A7],pre:=fun(a,_,_)=>List.length a≤100000,out:=fun(a,b,_)=>[.p .bool (Eb a b)],lend:=true }
attribute [local go_sem] K5
theorem UD:Ag Tryz.prog 138 K5:=by
 refine AR Tryz.func138 (by kernel_rfl) rfl Tryz.ntmps138 (by decide) (by kernel_rfl) (AF [(156,Vl)]) (AD pB AH) ?_
 rintro w0 O0 ⟨a,b,u⟩ hc-ha
 have ha:a.length≤100000:=ha
 simp only[K5,AN]
 repeat'(first|exact trivial|refine eS rfl ?_|refine AB ?_|refine rX [0,1,4] hc ?_ ?_|refine rC ?_ ?_<;>intro AA<;>try(cases AA;done))
 ·exact ha
 ·exact AG hc [.tmp 4] rfl (.inl rfl) (by simp) (by unfold Eb;first|exact eR|refine Al ?_)
def FA (a b:List Int):Bool:=Eb a b&&Eb b a
def QW:Ae:={ ins:=[A7,A7],pre:=fun(a,b,_)=>List.length a≤100000∧List.length b≤100000,out:=fun(a,b,_)=>[.p .bool (FA a b)],lend:=true }
theorem kL:Ag Tryz.prog 134 QW:=by
 refine AR Tryz.func134 (by kernel_rfl) rfl Tryz.ntmps134 (by decide) (by kernel_rfl) (AF [(138,K5)]) (AD UD AH) ?_
 rintro w0 O0 ⟨a,b,u⟩ hc-⟨ha,hb⟩
 simp only[QW,AN]
 repeat'(first|exact trivial|refine eS rfl ?_|refine AB ?_|refine rX [0,1,4] hc ?_ ?_|refine rC ?_ ?_<;>intro AA<;>try(cases AA;done))
 ·exact⟨ha,fun _=>hb⟩
 ·exact AG hc [.tmp 4] rfl (.inl rfl) (by simp) (by unfold FA;first|exact eR|refine Al ?_)
end
/- Functions of grammarlabref02: Same, List. -/
section
attribute [local go_sem] Zd
def Gd (a b:List Int):Bool:=decide (a=b)
def La:Ae:={ ins:=[A7,A7],pre:=fun _=>True,out:=fun(a,b,_)=>[.p .bool (Gd a b)],lend:=true }
theorem Vm:Ag Tryz.prog 125 La:=by
 refine AR Tryz.func125 (by kernel_rfl) rfl Tryz.ntmps125 (by decide) (by kernel_rfl) (AF []) AH ?_
 rintro w0 O0 ⟨a,b,u⟩ hc ⟨⟨ha,-⟩,-⟩ -
 simp only[AO]at ha
 simp only[La,AN]
 repeat'(first|exact trivial|refine eS rfl ?_|refine AB ?_|refine rX [0,1,4,5,10,14,25] hc ?_ ?_|refine rC ?_ ?_<;>intro AA<;>try(cases AA;done))
 ·have h1:Gd a b=false:=by
   unfold Gd
   rw[decide_eq_false_iff_not]
   rintro rfl
   exact AA rfl
  exact AG hc [.tmp 4] rfl (.inl rfl) (by simp) (by rw[h1];first|exact eR|refine Al ?_)
 ·have hab:a.length=b.length:=by
   have:(a.length:Int)=(b.length:Int):=by simpa using AA
   exact Int.ofNat_inj.1 this
  refine AK (ι:={k:Nat//k≤a.length∧a.take k=b.take k}) (fun k=>⟨[(0,.p A7 a),(1,.p A7 b),(5,.p (.int .i64) (k.1:Int))],[]⟩) (fun k=>a.length-k.1) ⟨0,Nat.zero_le _,rfl⟩ (AC [] rfl rfl ?_ ?_) (fun k=>?_)
  ·first|exact eN|refine eM ?_
  ·first|exact eN|refine eM ?_
  ·obtain⟨k,hk,hf⟩:=k
   simp only
   repeat'(first|exact trivial|refine eS rfl ?_|refine AB ?_|refine rX [0,1,4,5,10,14,25] hc ?_ ?_|refine rC ?_ ?_<;>intro AA<;>try(cases AA;done))
   ·exact⟨AA,by rw[←hab];exact AA⟩
   ·have hk2:k<a.length:=by exact eV
    have h1:Gd a b=false:=by
     unfold Gd
     rw[decide_eq_false_iff_not]
     rintro rfl
     exact AA rfl
    exact AG hc [.tmp 4] rfl (.inl rfl) (by simp) (by rw[h1];first|exact eR|refine Al ?_)
   ·exact eV
   ·have hk2:k<a.length:=by exact eV
    have he:a.getD k 0=b.getD k 0:=by simpa using AA
    refine⟨⟨k+1,by omega,?_⟩,by simp only;omega,AC [] rfl rfl ?_ ?_⟩
    ·rw[Ab a 0 hk2,Ab b 0 (by omega),hf]
     rw[show a.getD k 0=b.getD k 0 from he]
    ·first|exact eN|refine eM ?_
    ·first|exact eN|refine eM ?_
   ·have hk2:k=a.length:=by exact eV
    subst hk2
    rw[List.take_length,hab,List.take_length]at hf
    have h1:Gd a b=true:=by unfold Gd;rw[hf];simp
    exact AG hc [.tmp 4] rfl (.inl rfl) (by simp) (by rw[h1];first|exact eR|refine Al ?_)
end
/- Functions of grammarlabref02: List, Count. -/
section
attribute [local go_sem] Zd
def Lb (b:List Int) (n:Nat):List Int:=((List.range n).filter fun(i:Nat)=>Rn b (i:Int)).map fun(i:Nat)=>(i:Int)
def Ge (b:List Int):List Int:=Lb b (64*b.length)
theorem Zf (b:List Int) (n:Nat):Lb b (n+1)=Lb b n++if Rn b (n:Int)=true then [(n:Int)] else []:=by
 unfold Lb
 rw[List.range_succ,List.filter_append,List.map_append]
 congr 1
 rw[List.filter_cons,List.filter_nil]
 split<;>rfl
theorem kM (b:List Int) (n:Nat):(Lb b n).length≤n:=by
 unfold Lb
 rw[List.length_map]
 exact Nat.le_trans (List.length_filter_le _ _) (by simp)
def gL:Ae:={ ins:=[A7],pre:=fun(b,_)=>List.length b≤100000,out:=fun(b,_)=>[.p Bz (Ge b)] }
attribute [local go_sem] gL
theorem wY:Ag Tryz.prog 155 gL:=by
 refine AR Tryz.func155 (by kernel_rfl) rfl Tryz.ntmps155 (by decide) (by kernel_rfl) (AF [(135,Zd)]) (AD pA AH) ?_
 rintro w0 O0 ⟨b,u⟩ hc-hb
 have hb:b.length≤100000:=hb
 simp only[gL,AN]
 repeat'(first|exact trivial|refine eS rfl ?_|refine AB ?_|refine rX [0,2,3,4,9,14] hc ?_ ?_|refine rC ?_ ?_<;>intro AA<;>try(cases AA;done))
 refine AK (ι:={n:Nat//n≤64*b.length}) (fun n=>⟨[(0,.p A7 b),(3,.sr 18 T3 0 (Lb b n.1).length),(4,.p (.int .i64) (n.1:Int))],[(18,.arr 3 T3 (Lb b n.1))]⟩) (fun n=>64*b.length-n.1) ⟨0,Nat.zero_le _⟩ (AC [(18,.nil)] rfl rfl ?_ ?_) (fun n=>?_)
 ·first|exact eN|refine eM ?_
  rfl
 ·first|exact eN|refine eM ?_
  rfl
 ·obtain⟨n,hn⟩:=n
  have hz:=kM b n
  have hs:=Zf b n
  simp only
  repeat'(first|exact trivial|refine eS rfl ?_|refine AB ?_|refine rX [0,2,3,4,9,14] hc ?_ ?_|refine rC ?_ ?_<;>intro AA<;>try(cases AA;done))
  ·exact eV
  ·rw[AA,if_pos rfl]at hs
   simp only[AO]
   dsimp only[Ty.den]at *
   omega
  ·exact eV
  ·have hn2:n<64*b.length:=by exact eV
   rw[AA,if_pos rfl]at hs
   refine⟨⟨n+1,by omega⟩,by simp only;omega,AC [(18,.nm 18)] rfl rfl ?_ ?_⟩
   ·simp only[hs]
    first|exact eN|refine eM ?_
   ·simp only[hs]
    first|exact eN|refine eM ?_
  ·exact eV
  ·have hn2:n<64*b.length:=by exact eV
   rw[AA,if_neg (by simp),List.append_nil]at hs
   refine⟨⟨n+1,by omega⟩,by simp only;omega,AC [(18,.nm 18)] rfl rfl ?_ ?_⟩
   ·simp only[hs]
    first|exact eN|refine eM ?_
   ·simp only[hs]
    first|exact eN|refine eM ?_
  ·have hn2:n=64*b.length:=by exact eV
   subst hn2
   refine GD [18] ?_
   exact AG hc [.tmp 2] rfl (.inl rfl) (by simp) (by unfold Ge;first|exact eR|refine Al ?_)
def Vn:Ae:={ ins:=[A7],pre:=fun(b,_)=>List.length b≤100000,out:=fun(b,_)=>[.p T3 ((Ge b).length:Int)],lend:=true }
theorem pC:Ag Tryz.prog 137 Vn:=by
 refine AR Tryz.func137 (by kernel_rfl) rfl Tryz.ntmps137 (by decide) (by kernel_rfl) (AF [(155,gL)]) (AD wY AH) ?_
 rintro w0 O0 ⟨b,u⟩ hc-hb
 simp only[Vn,AN]
 repeat'(first|exact trivial|refine eS rfl ?_|refine AB ?_|refine rX [0,2] hc ?_ ?_|refine rC ?_ ?_<;>intro AA<;>try(cases AA;done))
 ·exact hb
 ·exact AG hc [.tmp 2] rfl (.inl rfl) (by simp) (by first|exact eR|refine Al ?_)
end
/- Functions of grammarlabref03: find, sizes, ready. -/
section
attribute [local go_sem] Dg gJ
abbrev AJ:=ByteArray×List ByteArray×List (ByteArray×ByteArray)
abbrev d0:AJ:=(ByteArray.empty,[],[])
def CO (s:ByteArray):Nat→List AJ→Int
 | _,[]=>-1
 | k,x :: l=>if Ak x.1 s=true then (k:Int) else CO s (k+1) l
def A8 (l:List AJ) (s:ByteArray):Int:=CO s 0 l
theorem Pc (s:ByteArray) (l:List AJ) {k:Nat} (h:k<l.length):CO s k (l.drop k)=if Ak (l.getD k d0).1 s=true then (k:Int) else CO s (k+1) (l.drop (k+1)):=by
 rw[List.drop_eq_getElem_cons h]
 have e:l.getD k d0=l[k]:=by simp[List.getD_eq_getElem?_getD,h]
 rw[e]
 rfl
def F2:Ae:={ ins:=[EH,T9],pre:=fun _=>True,out:=fun(l,s,_)=>[.p T3 (A8 l s)] }
attribute [local go_sem] F2
theorem J7:Ag Tryz.prog 151 F2:=by
 refine AR Tryz.func151 (by kernel_rfl) rfl Tryz.ntmps151 (by decide) (by kernel_rfl) (AF []) AH ?_
 rintro w0 O0 ⟨l,s,u⟩ hc ⟨⟨hl,-⟩,-⟩ -
 simp only[AO]at hl
 simp only[F2,AN]
 repeat'(first|exact trivial|refine eS rfl ?_|refine AB ?_|refine rX [0,1,4,5,9,18] hc ?_ ?_|refine rC ?_ ?_<;>intro AA<;>try(cases AA;done))
 refine AK (ι:={k:Nat//k≤l.length∧CO s k (l.drop k)=A8 l s}) (fun k=>⟨[(0,.p EH l),(1,.p T9 s),(5,.p (.int .i64) (k.1:Int))],[]⟩) (fun k=>l.length-k.1) ⟨0,Nat.zero_le _,rfl⟩ (AC [] rfl rfl ?_ ?_) (fun k=>?_)
 ·first|exact eN|refine eM ?_
 ·first|exact eN|refine eM ?_
 ·obtain⟨k,hk,hf⟩:=k
  simp only
  repeat'(first|exact trivial|refine eS rfl ?_|refine AB ?_|refine rX [0,1,4,5,9,18] hc ?_ ?_|refine rC ?_ ?_<;>intro AA<;>try(cases AA;done))
  ·exact AA
  ·have hk2:k<l.length:=by exact eV
   rw[Pc s l hk2,if_pos AA]at hf
   exact AG hc [.tmp 4] rfl (.inl rfl) (by simp) (by rw[←hf];first|exact eR|refine Al ?_)
  ·exact eV
  ·have hk2:k<l.length:=by exact eV
   rw[Pc s l hk2,if_neg (by rw[AA];simp)]at hf
   refine⟨⟨k+1,by omega,hf⟩,by simp only;omega,AC [] rfl rfl ?_ ?_⟩
   ·first|exact eN|refine eM ?_
   ·first|exact eN|refine eM ?_
  ·have hk2:l.drop k=[]:=List.drop_eq_nil_of_le (by exact eV)
   rw[hk2]at hf
   exact AG hc [.tmp 4] rfl (.inl rfl) (by simp) (by rw[←hf];first|exact eR|refine Al ?_;rfl)
def J8:List AJ→Int
 | []=>0
 | x :: l=>if 256<x.2.1.length∨256<x.2.2.length then 7 else J8 l
def EM (l:List AJ):Int:=if 256<l.length then 7 else J8 l
theorem Pd (l:List AJ) {k:Nat} (h:k<l.length):J8 (l.drop k)=if 256<(l.getD k d0).2.1.length∨256<(l.getD k d0).2.2.length then 7 else J8 (l.drop (k+1)):=by
 rw[List.drop_eq_getElem_cons h]
 have e:l.getD k d0=l[k]:=by simp[List.getD_eq_getElem?_getD,h]
 rw[e]
 rfl
def Ro:Ae:={ ins:=[EH],pre:=fun _=>True,out:=fun(l,_)=>[.p XZ (EM l)] }
attribute [local go_sem] Ro
theorem pD:Ag Tryz.prog 126 Ro:=by
 refine AR Tryz.func126 (by kernel_rfl) rfl Tryz.ntmps126 (by decide) (by kernel_rfl) (AF []) AH ?_
 rintro w0 O0 ⟨l,u⟩ hc ⟨⟨hl,-⟩,-⟩ -
 simp only[AO]at hl
 simp only[Ro,AN]
 repeat'(first|exact trivial|refine eS rfl ?_|refine AB ?_|refine rX [0,2,3,6,10,28] hc ?_ ?_|refine rC ?_ ?_<;>intro AA<;>try(cases AA;done))
 ·have h1:EM l=7:=by unfold EM;rw[if_pos (by exact eV)]
  exact AG hc [.tmp 2] rfl (.inl rfl) (by simp) (by rw[h1];first|exact eR|refine Al ?_)
 ·have h1:EM l=J8 l:=by unfold EM;rw[if_neg (by exact eV)]
  refine AK (ι:={k:Nat//k≤l.length∧J8 (l.drop k)=EM l}) (fun k=>⟨[(0,.p EH l),(3,.p (.int .i64) (k.1:Int))],[]⟩) (fun k=>l.length-k.1) ⟨0,Nat.zero_le _,h1.symm⟩ (AC [] rfl rfl ?_ ?_) (fun k=>?_)
  ·first|exact eN|refine eM ?_
  ·first|exact eN|refine eM ?_
  ·obtain⟨k,hk,hf⟩:=k
   simp only
   repeat'(first|exact trivial|refine eS rfl ?_|refine AB ?_|refine rX [0,2,3,6,10,28] hc ?_ ?_|refine rC ?_ ?_<;>intro AA<;>try(cases AA;done))
   ·exact⟨AA,fun _=>AA⟩
   ·have hk2:k<l.length:=by exact eV
    rw[Pd l hk2,if_pos (by
     rcases AA with h|h
     ·exact .inl (Int.ofNat_lt.1 h)
     ·exact .inr (Int.ofNat_lt.1 h))]at hf
    exact AG hc [.tmp 2] rfl (.inl rfl) (by simp) (by rw[←hf];first|exact eR|refine Al ?_)
   ·exact eV
   ·have hk2:k<l.length:=by exact eV
    rw[Pd l hk2,if_neg (by
     rintro (h|h)
     ·have:=Int.ofNat_le.1 AA.1;exact absurd h (Nat.not_lt.2 this)
     ·have:=Int.ofNat_le.1 AA.2;exact absurd h (Nat.not_lt.2 this))]at hf
    refine⟨⟨k+1,by omega,hf⟩,by simp only;omega,AC [] rfl rfl ?_ ?_⟩
    ·first|exact eN|refine eM ?_
    ·first|exact eN|refine eM ?_
   ·have hk2:l.drop k=[]:=List.drop_eq_nil_of_le (by exact eV)
    rw[hk2]at hf
    exact AG hc [.tmp 2] rfl (.inl rfl) (by simp) (by rw[←hf];first|exact eR|refine Al ?_;rfl)
theorem IL {α:Type} (l:List α) (d:α) (p:α→Bool) {k:Nat} (h:k<l.length):(l.take (k+1)).all p=((l.take k).all p&&p (l.getD k d)):=by
 rw[Ab l d h,List.all_append];simp
def Gf (x:AJ) (done:List ByteArray):Bool:=x.2.1.all fun s=>AY done s
def Rp:Ae:={ ins:=[kF,Bl],pre:=fun _=>True,out:=fun(x,l,_)=>[.p .bool (Gf x l)],lend:=true }
attribute [local go_sem] Rp
theorem pE:Ag Tryz.prog 152 Rp:=by
 refine AR Tryz.func152 (by kernel_rfl) rfl Tryz.ntmps152 (by decide) (by kernel_rfl) (AF [(131,Dg)]) (AD Fm AH) ?_
 rintro w0 O0 ⟨⟨nm,sup,fe⟩,l,u⟩ hc ⟨⟨-,⟨hsz,-⟩,-⟩,-⟩ -
 simp only[AO]at hsz
 simp only[Rp,AN]
 repeat'(first|exact trivial|refine eS rfl ?_|refine AB ?_|refine rX [0,1,2,4,5,10,20] hc ?_ ?_|refine rC ?_ ?_<;>intro AA<;>try(cases AA;done))
 refine AK (ι:={k:Nat//k≤sup.length∧(sup.take k).all (fun s=>AY l s)=true}) (fun k=>⟨[(1,.p Bl l),(2,.bp 2 [] 0),(5,.p (.int .i64) (k.1:Int))],[(2,.box 119 true [.p T9 nm,.p Bl sup,.p Xb fe])]⟩) (fun k=>sup.length-k.1) ⟨0,by simp⟩ (AC [(2,.nm 2)] rfl rfl ?_ ?_) (fun k=>?_)
 ·first|exact eN|refine eM ?_
 ·first|exact eN|refine eM ?_
 ·obtain⟨k,hk,hf⟩:=k
  simp only
  repeat'(first|exact trivial|refine eS rfl ?_|refine AB ?_|refine rX [0,1,2,4,5,10,20] hc ?_ ?_|refine rC ?_ ?_<;>intro AA<;>try(cases AA;done))
  ·exact AA
  ·have hk2:k<sup.length:=by exact eV
   have h1:Gf (nm,sup,fe) l=false:=by
    unfold Gf
    refine Bool.eq_false_iff.2 fun h=>?_
    have:=List.all_eq_true.1 h _ (AE sup ByteArray.empty hk2)
    rw[AA]at this
    cases this
   exact AG hc [.tmp 4] rfl (.inl rfl) (by simp) (by rw[h1];first|exact eR|refine Al ?_)
  ·have:=hsz
   exact eV
  ·have hk2:k<sup.length:=by exact eV
   refine⟨⟨k+1,by omega,?_⟩,by simp only;omega,AC [(2,.nm 2)] rfl rfl ?_ ?_⟩
   ·rw[IL sup ByteArray.empty _ hk2,hf]
    exact AA
   ·first|exact eN|refine eM ?_
   ·first|exact eN|refine eM ?_
  ·have hk2:sup.take k=sup:=List.take_of_length_le (by exact eV)
   rw[hk2]at hf
   have h1:Gf (nm,sup,fe) l=true:=hf
   exact AG hc [.tmp 4] rfl (.inl rfl) (by simp) (by rw[h1];first|exact eR|refine Al ?_)
def L8 (d:List AJ):Nat→List AJ→Int
 | _,[]=>0
 | k,x :: l=>if EL x.1 false=false then 1 else if A8 d x.1<(k:Int) then 4 else L8 d (k+1) l
def DK (d:List AJ):Int:=L8 d 0 d
theorem J9 (d l:List AJ) {k:Nat} (h:k<l.length):L8 d k (l.drop k)=if EL (l.getD k d0).1 false=false then 1 else if A8 d (l.getD k d0).1<(k:Int) then 4 else L8 d (k+1) (l.drop (k+1)):=by
 rw[List.drop_eq_getElem_cons h]
 have e:l.getD k d0=l[k]:=by simp[List.getD_eq_getElem?_getD,h]
 rw[e]
 rfl
def Rq:Ae:={ ins:=[EH],pre:=fun _=>True,out:=fun(l,_)=>[.p XZ (DK l)] }
attribute [local go_sem] Rq
theorem pF:Ag Tryz.prog 127 Rq:=by
 refine AR Tryz.func127 (by kernel_rfl) rfl Tryz.ntmps127 (by decide) (by kernel_rfl) (AF [(150,gJ),(151,F2)]) (AD wX (AD J7 AH)) ?_
 rintro w0 O0 ⟨l,u⟩ hc ⟨⟨hl,-⟩,-⟩ -
 simp only[AO]at hl
 simp only[Rq,AN]
 repeat'(first|exact trivial|refine eS rfl ?_|refine AB ?_|refine rX [0,2,3,7,16,25] hc ?_ ?_|refine rC ?_ ?_<;>intro AA<;>try(cases AA;done))
 refine AK (ι:={k:Nat//k≤l.length∧L8 l k (l.drop k)=DK l}) (fun k=>⟨[(0,.p EH l),(3,.p (.int .i64) (k.1:Int))],[]⟩) (fun k=>l.length-k.1) ⟨0,Nat.zero_le _,rfl⟩ (AC [] rfl rfl ?_ ?_) (fun k=>?_)
 ·first|exact eN|refine eM ?_
 ·first|exact eN|refine eM ?_
 ·obtain⟨k,hk,hf⟩:=k
  simp only
  repeat'(first|exact trivial|refine eS rfl ?_|refine AB ?_|refine rX [0,2,3,7,16,25] hc ?_ ?_|refine rC ?_ ?_<;>intro AA<;>try(cases AA;done))
  ·exact AA
  ·have hk2:k<l.length:=by exact eV
   rw[J9 l l hk2,if_pos AA]at hf
   exact AG hc [.tmp 2] rfl (.inl rfl) (by simp) (by rw[←hf];first|exact eR|refine Al ?_)
  ·assumption
  ·rename_i hnm
   have hk2:k<l.length:=by exact eV
   rw[J9 l l hk2,if_neg (by rw[hnm];simp),if_pos AA]at hf
   exact AG hc [.tmp 2] rfl (.inl rfl) (by simp) (by rw[←hf];first|exact eR|refine Al ?_)
  ·exact eV
  ·rename_i hnm
   have hk2:k<l.length:=by exact eV
   rw[J9 l l hk2,if_neg (by rw[hnm];simp),if_neg (Int.not_lt.2 AA)]at hf
   refine⟨⟨k+1,by omega,hf⟩,by simp only;omega,AC [] rfl rfl ?_ ?_⟩
   ·first|exact eN|refine eM ?_
   ·first|exact eN|refine eM ?_
  ·have hk2:l.drop k=[]:=List.drop_eq_nil_of_le (by exact eV)
   rw[hk2]at hf
   exact AG hc [.tmp 2] rfl (.inl rfl) (by simp) (by rw[←hf];first|exact eR|refine Al ?_;rfl)
def QG (d:List AJ) (l:List ByteArray):Nat→List ByteArray→Int
 | _,[]=>0
 | k,x :: r=>if A8 d x<0 then 5 else if AY (l.take k) x=true then 4 else QG d l (k+1) r
def Iy (d:List AJ):List AJ→Int
 | []=>0
 | x :: l=>if QG d x.2.1 0 x.2.1≠0 then QG d x.2.1 0 x.2.1 else Iy d l
def Iz (d:List AJ):Int:=Iy d d
theorem OU (d:List AJ) (l:List ByteArray) {k:Nat} (h:k<l.length):QG d l k (l.drop k)=if A8 d (l.getD k ByteArray.empty)<0 then 5 else if AY (l.take k) (l.getD k ByteArray.empty)=true then 4 else QG d l (k+1) (l.drop (k+1)):=by
 rw[List.drop_eq_getElem_cons h]
 have e:l.getD k ByteArray.empty=l[k]:=by simp[List.getD_eq_getElem?_getD,h]
 rw[e]
 rfl
theorem Vo (d l:List AJ) {k:Nat} (h:k<l.length):Iy d (l.drop k)=if QG d (l.getD k d0).2.1 0 (l.getD k d0).2.1≠0 then QG d (l.getD k d0).2.1 0 (l.getD k d0).2.1 else Iy d (l.drop (k+1)):=by
 rw[List.drop_eq_getElem_cons h]
 have e:l.getD k d0=l[k]:=by simp[List.getD_eq_getElem?_getD,h]
 rw[e]
 rfl
def NE:Ae:={ ins:=[EH],pre:=fun _=>True,out:=fun(l,_)=>[.p XZ (Iz l)] }
attribute [local go_sem] NE
theorem kN:Ag Tryz.prog 128 NE:=by
 refine AR Tryz.func128 (by kernel_rfl) rfl Tryz.ntmps128 (by decide) (by kernel_rfl) (AF [(131,Dg),(151,F2)]) (AD Fm (AD J7 AH)) ?_
 rintro w0 O0 ⟨l,u⟩ hc ⟨⟨hl,hall⟩,-⟩ -
 simp only[AO]at hl
 simp only[NE,AN]
 repeat'(first|exact trivial|refine eS rfl ?_|refine AB ?_|refine rX [0,2,3,4,5,9,20,29,37] hc ?_ ?_|refine rC ?_ ?_<;>intro AA<;>try(cases AA;done))
 refine AK (ι:={i:Nat//i≤l.length∧Iy l (l.drop i)=Iz l}) (fun i=>⟨[(0,.p EH l),(3,.p (.int .i64) (i.1:Int))],[]⟩) (fun i=>l.length-i.1) ⟨0,Nat.zero_le _,rfl⟩ (AC [] rfl rfl ?_ ?_) (fun i=>?_)
 ·first|exact eN|refine eM ?_
 ·first|exact eN|refine eM ?_
 ·obtain⟨i,hi,hf⟩:=i
  simp only
  repeat'(first|exact trivial|refine eS rfl ?_|refine AB ?_|refine rX [0,2,3,4,5,9,20,29,37] hc ?_ ?_|refine rC ?_ ?_<;>intro AA<;>try(cases AA;done))
  ·exact AA
  ·have hi2:i<l.length:=by exact eV
   have hm:=hall _ (AE l d0 hi2)
   have hml:(l.getD i d0).2.1.length≤AO:=hm.2.1.1
   simp only[AO]at hml
   rw[Vo l l hi2]at hf
   generalize (l.getD i d0).2.1=sup at *
   refine AK (ι:={k:Nat//k≤sup.length∧QG l sup k (sup.drop k)=QG l sup 0 sup}) (fun k=>⟨[(0,.p EH l),(3,.p (.int .i64) (i:Int)),(4,.p Bl sup),(5,.p (.int .i64) (k.1:Int))],[]⟩) (fun k=>sup.length-k.1) ⟨0,Nat.zero_le _,rfl⟩ (AC [] rfl rfl ?_ ?_) (fun k=>?_)
   ·first|exact eN|refine eM ?_
   ·first|exact eN|refine eM ?_
   ·obtain⟨k,hk,hg⟩:=k
    simp only
    repeat'(first|exact trivial|refine eS rfl ?_|refine AB ?_|refine rX [0,2,3,4,5,9,20,29,37] hc ?_ ?_|refine rC ?_ ?_<;>intro AA<;>try(cases AA;done))
    ·exact AA
    ·have hk2:k<sup.length:=by exact eV
     rw[OU l sup hk2,if_pos AA]at hg
     rw[←hg,if_pos (by decide)]at hf
     exact AG hc [.tmp 2] rfl (.inl rfl) (by simp) (by rw[←hf];first|exact eR|refine Al ?_)
    ·exact eV
    ·rename_i hge
     have hk2:k<sup.length:=by exact eV
     rw[OU l sup hk2,if_neg (Int.not_lt.2 hge),if_pos AA]at hg
     rw[←hg,if_pos (by decide)]at hf
     exact AG hc [.tmp 2] rfl (.inl rfl) (by simp) (by rw[←hf];first|exact eR|refine Al ?_)
    ·exact eV
    ·rename_i hge
     have hk2:k<sup.length:=by exact eV
     rw[OU l sup hk2,if_neg (Int.not_lt.2 hge),if_neg (by rw[AA];simp)]at hg
     refine⟨⟨k+1,by omega,hg⟩,by simp only;omega,AC [] rfl rfl ?_ ?_⟩
     ·first|exact eN|refine eM ?_
     ·first|exact eN|refine eM ?_
    ·exact eV
    ·have hk2:sup.drop k=[]:=List.drop_eq_nil_of_le (by exact eV)
     rw[hk2]at hg
     rw[←hg,if_neg (by simp[QG])]at hf
     refine⟨⟨i+1,by omega,hf⟩,by simp only;omega,AC [] rfl rfl ?_ ?_⟩
     ·first|exact eN|refine eM ?_
     ·first|exact eN|refine eM ?_
  ·have hk2:l.drop i=[]:=List.drop_eq_nil_of_le (by exact eV)
   rw[hk2]at hf
   exact AG hc [.tmp 2] rfl (.inl rfl) (by simp) (by rw[←hf];first|exact eR|refine Al ?_;rfl)
end
/- Functions of grammarlabref03: Names, placed. -/
section
attribute [local go_sem] F2 Rp Dg L7
theorem EC {α β:Type} (g:β→α→β) (l:List α) (d:α) (t:β) {i:Nat} (hi:i<l.length):(l.take (i+1)).foldl g t=g ((l.take i).foldl g t) (l.getD i d):=by
 rw[Ab l d hi,List.foldl_append];rfl
theorem KA (l:List ByteArray) (s:ByteArray):(Dh l s).length≤l.length+1:=by
 unfold Dh
 split
 ·omega
 ·have:=y4 (fun x=>F6 x s) l
  have h2:mO l s≤l.length:=this
  simp only[List.length_append,List.length_take,List.length_drop,List.length_singleton]
  omega
def AU (l:List AJ):List ByteArray:=l.foldl (fun o x=>Dh o x.1) []
theorem Ef (l:List AJ) (k:Nat):(AU (l.take k)).length≤k:=by
 have key:∀(l:List AJ) (o:List ByteArray),(l.foldl (fun o x=>Dh o x.1) o).length≤o.length+l.length:=by
  intro l
  induction l with
  | nil=>intro o;simp
  | cons x l ih =>
   intro o
   have h1:=ih (Dh o x.1)
   have h2:=KA o x.1
   simp only[List.foldl_cons,List.length_cons]
   omega
 have h1:=key (l.take k) []
 have h2:=List.length_take_le k l
 unfold AU
 simp only[List.length_nil]at h1
 omega
def I0:Ae:={ ins:=[EH],pre:=fun(l,_)=>List.length l≤100000,out:=fun(l,_)=>[.p Bl (AU l)] }
attribute [local go_sem] I0
theorem UE:Ag Tryz.prog 89 I0:=by
 refine AR Tryz.func89 (by kernel_rfl) rfl Tryz.ntmps89 (by decide) (by kernel_rfl) (AF [(122,L7)]) (AD OQ AH) ?_
 rintro w0 O0 ⟨l,u⟩ hc-hl
 have hl:l.length≤100000:=hl
 simp only[I0,AN]
 repeat'(first|exact trivial|refine eS rfl ?_|refine AB ?_|refine rX [0,2,3,4,8] hc ?_ ?_|refine rC ?_ ?_<;>intro AA<;>try(cases AA;done))
 refine AK (ι:={k:Nat//k≤l.length}) (fun k=>⟨[(0,.p EH l),(3,.p Bl (AU (l.take k.1))),(4,.p (.int .i64) (k.1:Int))],[]⟩) (fun k=>l.length-k.1) ⟨0,Nat.zero_le _⟩ (AC [] rfl rfl ?_ ?_) (fun k=>?_)
 ·first|exact eN|refine eM ?_
 ·first|exact eN|refine eM ?_
  rfl
 ·obtain⟨k,hk⟩:=k
  have hn:=Ef l k
  have hs:=fun h:k<l.length=>EC (fun(o:List ByteArray) (x:AJ)=>Dh o x.1) l d0 [] h
  simp only
  repeat'(first|exact trivial|refine eS rfl ?_|refine AB ?_|refine rX [0,2,3,4,8] hc ?_ ?_|refine rC ?_ ?_<;>intro AA<;>try(cases AA;done))
  ·exact⟨AA,by omega⟩
  ·exact eV
  ·have hk2:k<l.length:=by exact eV
   have e:=hs hk2
   refine⟨⟨k+1,by omega⟩,by simp only;omega,AC [] rfl rfl ?_ ?_⟩
   ·first|exact eN|refine eM ?_
   ·simp only
    have e:AU (l.take (k+1))=Dh (AU (l.take k)) (l.getD k d0).1:=e
    rw[e]
    first|exact eN|refine eM ?_
  ·have hk2:l.take k=l:=List.take_of_length_le (by exact eV)
   rw[hk2]
   exact AG hc [.tmp 2] rfl (.inl rfl) (by simp) (by first|exact eR|refine Al ?_)
def HT (out:List ByteArray) (s:Bool×ByteArray) (x:AJ):Bool×ByteArray :=
 if (AY out x.1||!Gf x out)=true then s else (true,if (!s.1||F6 x.1 s.2)=true then x.1 else s.2)
def Gg (d:List AJ) (out:List ByteArray):Bool×ByteArray:=d.foldl (HT out) (false,ByteArray.empty)
def HV (d:List AJ):Nat→List ByteArray→List ByteArray
 | 0,out=>out
 | n+1,out=>if (Gg d out).1=true then HV d n (out++[(Gg d out).2]) else out
def BW (d:List AJ):List ByteArray:=HV d d.length []
def Gh (d:List AJ) (out:List ByteArray):Nat:=d.countP fun x=>!AY out x.1
theorem Eg (s:ByteArray):Ak s s=true:=by unfold Ak;simp
theorem L9 (out:List ByteArray) (s x:ByteArray):AY (out++[s]) x=(AY out x||Ak s x):=by
 unfold AY
 simp[List.any_append]
theorem kO (d:List AJ) (out:List ByteArray) (h:(Gg d out).1=true):∃x∈d,x.1=(Gg d out).2∧AY out x.1=false:=by
 have key:∀(l:List AJ) (s:Bool×ByteArray),(∀x∈l,x∈d)→(s.1=true→∃x∈d,x.1=s.2∧AY out x.1=false)→(l.foldl (HT out) s).1=true →
   ∃x∈d,x.1=(l.foldl (HT out) s).2∧AY out x.1=false:=by
  intro l
  induction l with
  | nil=>intro s _ hs h;exact hs h
  | cons y l ih =>
   intro s hl hs h
   rw[List.foldl_cons]at h ⊢
   refine ih _ (fun x hx=>hl x (by simp[hx])) (fun hp=>?_) h
   unfold HT at hp ⊢
   split
   ·rename_i hc
    rw[if_pos hc]at hp
    exact hs hp
   ·rename_i hc
    simp only
    have hy:AY out y.1=false:=by
     cases hh:AY out y.1 with
     | false=>rfl
     | true=>rw[hh]at hc;simp at hc
    split
    ·exact⟨y,hl y (by simp),rfl,hy⟩
    ·rename_i hc2
     have:s.1=true:=by
      cases hh:s.1 with
      | true=>rfl
      | false=>rw[hh]at hc2;simp at hc2
     exact hs this
 exact key d _ (fun _ h=>h) (fun h=>by cases h) h
theorem Xk {d:List AJ} {out:List ByteArray} (h:(Gg d out).1=true):Gh d (out++[(Gg d out).2])<Gh d out:=by
 obtain⟨x,hx,h1,h2⟩:=kO d out h
 generalize (Gg d out).2=s at *
 unfold Gh
 have key:∀l:List AJ,(l.countP fun y=>!AY (out++[s]) y.1)≤l.countP fun y=>!AY out y.1:=by
  intro l
  refine List.countP_mono_left fun y _ hy=>?_
  rw[L9]at hy
  cases hh:AY out y.1 with
  | false=>rfl
  | true=>rw[hh]at hy;simp at hy
 obtain⟨l1,l2,rfl⟩:=List.append_of_mem hx
 rw[List.countP_append,List.countP_append,List.countP_cons,List.countP_cons]
 have k1:=key l1
 have k2:=key l2
 have e1:AY (out++[s]) x.1=true:=by rw[L9,h1,Eg,Bool.or_true]
 rw[e1,h2]
 simp only[Bool.not_true,Bool.not_false,if_true]
 simp only[Bool.false_eq_true,if_false]
 omega
def QX:Ae:={ ins:=[EH],pre:=fun(l,_)=>List.length l≤100000,out:=fun(l,_)=>[.p Bl (BW l)] }
theorem kP:Ag Tryz.prog 129 QX:=by
 refine AR Tryz.func129 (by kernel_rfl) rfl Tryz.ntmps129 (by decide) (by kernel_rfl) (AF [(131,Dg),(152,Rp)]) (AD Fm (AD pE AH)) ?_
 rintro w0 O0 ⟨d,u⟩ hc-hd
 have hd:d.length≤100000:=hd
 simp only[QX,AN]
 repeat'(first|exact trivial|refine eS rfl ?_|refine AB ?_|refine rX [0,2,3,4,5,6,7,11,29,40,46] hc ?_ ?_|refine rC ?_ ?_<;>intro AA<;>try(cases AA;done))
 refine AK (ι:={x:Nat×List ByteArray×Bool//x.1+x.2.1.length≤d.length∧(x.2.2=true→Gh d x.2.1≤x.1∧HV d x.1 x.2.1=BW d)∧(x.2.2=false→x.2.1=BW d)}) (fun x=>⟨[(0,.p EH d),(3,.sr 50 T9 0 x.1.2.1.length),(4,.p .bool x.1.2.2)],[(50,.arr 9 T9 x.1.2.1)]⟩) (fun x=>(if x.1.2.2=true then x.1.1+1 else 0)) ⟨(d.length,[],true),by simp,fun _=>⟨List.countP_le_length,rfl⟩,fun h=>by cases h⟩ (AC [(50,.nil)] rfl rfl ?_ ?_) (fun x=>?_)
 ·first|exact eN|refine eM ?_
 ·first|exact eN|refine eM ?_
 ·obtain⟨⟨n,out,more⟩,hlen,hm1,hm2⟩:=x
  simp only at hlen hm1 hm2
  simp only
  repeat'(first|exact trivial|refine eS rfl ?_|refine AB ?_|refine rX [0,2,3,4,5,6,7,11,29,40,46] hc ?_ ?_|refine rC ?_ ?_<;>intro AA<;>try(cases AA;done))
  ·subst AA
   obtain⟨hu,hp⟩:=hm1 rfl
   have hz:({ data:=#[] }:ByteArray).size≤AO:=by decide
   rw[if_pos hz]
   refine AK (ι:={y:Nat×Bool×ByteArray//y.1≤d.length∧(d.take y.1).foldl (HT out) (false,ByteArray.empty)=y.2}) (fun y=>⟨[(0,.p EH d),(3,.sr 50 T9 0 out.length),(4,.p .bool y.1.2.1),(5,.p T9 y.1.2.2),(6,.p (.int .i64) (y.1.1:Int))],[(50,.arr 9 T9 out)]⟩) (fun y=>d.length-y.1.1) ⟨(0,false,ByteArray.empty),by simp,rfl⟩ (AC [(50,.nm 50)] rfl rfl ?_ ?_) (fun y=>?_)
   ·first|exact eN|refine eM ?_
   ·first|exact eN|refine eM ?_
    rfl
   ·obtain⟨⟨k,mo,nx⟩,hk,hfold⟩:=y
    simp only at hk hfold
    have hstep:∀h:k<d.length,(d.take (k+1)).foldl (HT out) (false,ByteArray.empty)=HT out (mo,nx) (d.getD k d0):=fun h=>by
     rw[EC (HT out) d d0 _ h,hfold]
    simp only
    repeat'(first|exact trivial|refine eS rfl ?_|refine AB ?_|refine rX [0,2,3,4,5,6,7,11,29,40,46] hc ?_ ?_|refine rC ?_ ?_<;>intro AA<;>try(cases AA;done))
    ·exact⟨AA,fun _=>AA⟩
    ·exact eV
    ·have hk2:k<d.length:=by exact eV
     refine⟨⟨(k+1,mo,nx),by simp only;omega,?_⟩,by simp only;omega,AC [(50,.nm 50)] rfl rfl ?_ ?_⟩
     ·simp only
      rw[hstep hk2]
      unfold HT
      rw[if_pos]
      rw[Bool.or_eq_true,Bool.not_eq_true']
      exact AA
     ·first|exact eN|refine eM ?_
     ·first|exact eN|refine eM ?_
    ·exact fun _=>by assumption
    ·assumption
    ·exact eV
    ·rename_i hc2
     have hk2:k<d.length:=by exact eV
     refine⟨⟨(k+1,true,(d.getD k d0).1),by simp only;omega,?_⟩,by simp only;omega,AC [(50,.nm 50)] rfl rfl ?_ ?_⟩
     ·simp only
      rw[hstep hk2]
      unfold HT
      rw[if_neg (by rw[hc2.1,hc2.2];simp),if_pos (by rw[Bool.or_eq_true,Bool.not_eq_true'];exact AA)]
     ·first|exact eN|refine eM ?_
     ·first|exact eN|refine eM ?_
    ·exact eV
    ·rename_i hc2
     have hk2:k<d.length:=by exact eV
     refine⟨⟨(k+1,true,nx),by simp only;omega,?_⟩,by simp only;omega,AC [(50,.nm 50)] rfl rfl ?_ ?_⟩
     ·simp only
      rw[hstep hk2]
      unfold HT
      rw[if_neg (by rw[hc2.1,hc2.2];simp),if_neg (by rw[Bool.or_eq_true,Bool.not_eq_true'];rintro (h|h)<;>simp_all)]
     ·first|exact eN|refine eM ?_
     ·first|exact eN|refine eM ?_
    ·simp only[AO]
     dsimp only[Ty.den]at *
     omega
    ·subst AA
     have hkd:d.take k=d:=List.take_of_length_le (by exact eV)
     rw[hkd]at hfold
     have hpk:Gg d out=(true,nx):=hfold
     have hlt:=Xk (d:=d) (out:=out) (by rw[hpk])
     rw[hpk]at hlt
     obtain⟨n',rfl⟩:∃n',n=n'+1:=⟨n-1,by omega⟩
     have hp2:HV d n' (out++[nx])=BW d:=by
      rw[←hp]
      show _=if (Gg d out).1=true then HV d n' (out++[(Gg d out).2]) else out
      rw[hpk,if_pos rfl]
     have hlt:Gh d (out++[nx])<Gh d out:=hlt
     have hun:Gh d (out++[nx])≤n':=by omega
     refine⟨⟨(n',out++[nx],true),by simp only[List.length_append,List.length_singleton];omega,fun _=>⟨hun,hp2⟩,fun h=>by cases h⟩,by simp,AC [(50,.nm 50)] rfl rfl ?_ ?_⟩
     ·first|exact eN|refine eM ?_
     ·first|exact eN|refine eM ?_
    ·subst AA
     have hkd:d.take k=d:=List.take_of_length_le (by exact eV)
     rw[hkd]at hfold
     have hpk:Gg d out=(false,nx):=hfold
     have hp2:out=BW d:=by
      rw[←hp]
      cases n with
      | zero=>rfl
      | succ n =>
       show _=if (Gg d out).1=true then HV d n (out++[(Gg d out).2]) else out
       rw[hpk,if_neg (by simp)]
     refine⟨⟨(n,out,false),hlen,(fun h=>by cases h),fun _=>hp2⟩,by simp,AC [(50,.nm 50)] rfl rfl ?_ ?_⟩
     ·first|exact eN|refine eM ?_
     ·first|exact eN|refine eM ?_
  ·subst AA
   have hout:=hm2 rfl
   rw[hout]
   refine GD [50] ?_
   exact AG hc [.tmp 2] rfl (.inl rfl) (by simp) (by first|exact eR|refine Al ?_)
end
/- Functions of grammarlabref03: Check. -/
section
attribute [local go_sem] Ro Rq NE QX
def Gi (d:List AJ):Nat:=d.countP fun x=>x.2.1.length==0
theorem Xl (d:List AJ) {k:Nat} (h:k<d.length):Gi (d.take (k+1))=Gi (d.take k)+if ((d.getD k d0).2.1.length==0)=true then 1 else 0:=by
 unfold Gi
 rw[Ab d d0 h,List.countP_append,List.countP_cons,List.countP_nil]
 omega
theorem kQ (d:List AJ):Gi d≤d.length:=List.countP_le_length
def BE (d:List AJ):Int :=
 if EM d≠0 then EM d else if DK d≠0 then DK d else if Iz d≠0 then Iz d else if Gi d≠1 then 1 else if (BW d).length<d.length then 6 else 0
theorem Pe {d:List AJ} (h:EM d=0):d.length≤256:=by
 unfold EM at h
 split at h
 ·cases h
 ·omega
def NF:Ae:={ ins:=[EH],pre:=fun _=>True,out:=fun(l,_)=>[.p XZ (BE l)] }
attribute [local go_sem] NF
theorem kR:Ag Tryz.prog 88 NF:=by
 refine AR Tryz.func88 (by kernel_rfl) rfl Tryz.ntmps88 (by decide) (by kernel_rfl) (AF [(126,Ro),(127,Rq),(128,NE),(129,QX)]) (AD pD (AD pF (AD kN (AD kP AH)))) ?_
 rintro w0 O0 ⟨d,u⟩ hc - -
 simp only[NF,AN]
 repeat'(first|exact trivial|refine eS rfl ?_|refine AB ?_|refine rX [0,2,3,4,5,6,7,11,16,21,26,35,39,45] hc ?_ ?_|refine rC ?_ ?_<;>intro AA<;>try(cases AA;done))
 ·have h1:BE d=EM d:=by unfold BE;rw[if_pos AA]
  exact AG hc [.tmp 2] rfl (.inl rfl) (by simp) (by rw[h1];first|exact eR|refine Al ?_)
 ·rename_i hs
  have hs:EM d=0:=by simpa using hs
  have h1:BE d=DK d:=by unfold BE;rw[if_neg (by rw[hs];simp),if_pos AA]
  exact AG hc [.tmp 2] rfl (.inl rfl) (by simp) (by rw[h1];first|exact eR|refine Al ?_)
 ·rename_i hs hn
  have hs:EM d=0:=by simpa using hs
  have hn:DK d=0:=by simpa using hn
  have h1:BE d=Iz d:=by unfold BE;rw[if_neg (by rw[hs];simp),if_neg (by rw[hn];simp),if_pos AA]
  exact AG hc [.tmp 2] rfl (.inl rfl) (by simp) (by rw[h1];first|exact eR|refine Al ?_)
 ·rename_i hs hn
  have hs:EM d=0:=by simpa using hs
  have hn:DK d=0:=by simpa using hn
  have hu:Iz d=0:=by simpa using AA
  have hd:=Pe hs
  have h1:BE d=if Gi d≠1 then 1 else if (BW d).length<d.length then 6 else 0:=by
   unfold BE;rw[if_neg (by rw[hs];simp),if_neg (by rw[hn];simp),if_neg (by rw[hu];simp)]
  refine AK (ι:={k:Nat//k≤d.length}) (fun k=>⟨[(0,.p EH d),(6,.p (.int .i64) (Gi (d.take k.1):Int)),(7,.p (.int .i64) (k.1:Int))],[]⟩) (fun k=>d.length-k.1) ⟨0,Nat.zero_le _⟩ (AC [] rfl rfl ?_ ?_) (fun k=>?_)
  ·first|exact eN|refine eM ?_
  ·first|exact eN|refine eM ?_
   rfl
  ·obtain⟨k,hk⟩:=k
   have hr:=kQ (d.take k)
   have hr2:=List.length_take_le k d
   have hsu:=fun h:k<d.length=>Xl d h
   simp only
   repeat'(first|exact trivial|refine eS rfl ?_|refine AB ?_|refine rX [0,2,3,4,5,6,7,11,16,21,26,35,39,45] hc ?_ ?_|refine rC ?_ ?_<;>intro AA<;>try(cases AA;done))
   ·exact AA
   ·exact eV
   ·exact eV
   ·have hk2:k<d.length:=by exact eV
    have e:=hsu hk2
    rw[if_pos (by rw[beq_iff_eq];exact Int.ofNat_eq_zero.1 AA)]at e
    refine⟨⟨k+1,by omega⟩,by simp only;omega,AC [] rfl rfl ?_ ?_⟩
    ·first|exact eN|refine eM ?_
    ·simp only[e]
     first|exact eN|refine eM ?_
   ·exact eV
   ·have hk2:k<d.length:=by exact eV
    have e:=hsu hk2
    rw[if_neg (by rw[beq_iff_eq];exact fun h=>AA (Int.ofNat_eq_zero.2 h))]at e
    refine⟨⟨k+1,by omega⟩,by simp only;omega,AC [] rfl rfl ?_ ?_⟩
    ·first|exact eN|refine eM ?_
    ·simp only[e]
     first|exact eN|refine eM ?_
   ·have hk2:d.take k=d:=List.take_of_length_le (by exact eV)
    rw[hk2]at AA
    rw[if_pos (fun h=>AA (by rw[h];rfl))]at h1
    exact AG hc [.tmp 2] rfl (.inl rfl) (by simp) (by rw[h1];first|exact eR|refine Al ?_)
   ·show d.length≤100000
    omega
   ·rename_i hro
    have hk2:d.take k=d:=List.take_of_length_le (by exact eV)
    rw[hk2]at hro
    have hro:(Gi d:Int)=1:=by simpa using hro
    rw[if_neg (by omega),if_pos (Int.ofNat_lt.1 AA)]at h1
    exact AG hc [.tmp 2] rfl (.inl rfl) (by simp) (by rw[h1];first|exact eR|refine Al ?_)
   ·rename_i hro
    have hk2:d.take k=d:=List.take_of_length_le (by exact eV)
    rw[hk2]at hro
    have hro:(Gi d:Int)=1:=by simpa using hro
    rw[if_neg (by omega),if_neg (fun h=>absurd (Int.ofNat_le.1 AA) (Nat.not_le.2 h))]at h1
    exact AG hc [.tmp 2] rfl (.inl rfl) (by simp) (by rw[h1];first|exact eR|refine Al ?_)
end
/- Functions of grammarlabref03: Above. -/
section
attribute [local go_sem] F2 Dg L7
def KB (o:List ByteArray) (s:ByteArray):List ByteArray:=if AY o s=true then o else o++[s]
def KC (d:List AJ) (s:ByteArray):List ByteArray:=(d.getD (A8 d s).toNat d0).2.1
def I1 (d:List AJ):Nat→Nat→List ByteArray→List ByteArray
 | 0,_,o=>o
 | n+1,i,o=>if i<o.length then I1 d n (i+1) ((KC d (o.getD i ByteArray.empty)).foldl KB o) else o
def KD (l:List ByteArray):List ByteArray:=l.foldl Dh []
theorem UF (l:List ByteArray):(KD l).length≤l.length:=by
 have key:∀(l o:List ByteArray),(l.foldl Dh o).length≤o.length+l.length:=by
  intro l
  induction l with
  | nil=>intro o;simp
  | cons x l ih =>
   intro o
   have h1:=ih (Dh o x)
   have h2:=KA o x
   simp only[List.foldl_cons,List.length_cons]
   omega
 have:=key l []
 simpa[KD] using this
def MA (d:List AJ) (s:ByteArray):List ByteArray:=if A8 d s<0 then [] else KD (I1 d d.length 0 [s])
def Rr (d:List AJ):Prop:=∀x∈d,∀s∈x.2.1,0≤A8 d s
theorem UG (s:ByteArray):∀(l:List AJ) (k:Nat),CO s k l=-1∨((k:Int)≤CO s k l∧CO s k l<(k:Int)+l.length∧Ak (l.getD ((CO s k l).toNat-k) d0).1 s=true)
 | [],_=>.inl rfl
 | x :: l,k=>by
  simp only[CO]
  split
  ·rename_i h
   right
   refine⟨by omega,by simp only[List.length_cons];omega,?_⟩
   have:((k:Int).toNat-k)=0:=by omega
   rw[this]
   exact h
  ·rcases UG s l (k+1) with h|⟨h1,h2,h3⟩
   ·exact .inl h
   ·right
    refine⟨by omega,by simp only[List.length_cons];omega,?_⟩
    have:((CO s (k+1) l).toNat-k)=((CO s (k+1) l).toNat-(k+1))+1:=by omega
    rw[this]
    exact h3
theorem C0 (d:List AJ) (s:ByteArray):A8 d s<0∨(0≤A8 d s∧A8 d s<(d.length:Int)∧Ak (d.getD (A8 d s).toNat d0).1 s=true):=by
 rcases UG s d 0 with h|⟨h1,h2,h3⟩
 ·left;show CO s 0 d<0;omega
 ·have h2:A8 d s<((0:Nat):Int)+d.length:=h2
  exact .inr ⟨h1,by omega,h3⟩
theorem IM {a b:ByteArray}:Ak a b=true↔a.toList=b.toList:=by unfold Ak;simp
theorem Eh {a b:ByteArray} (h:Ak a b=true):Ak b a=true:=IM.2 (IM.1 h).symm
theorem B2 {a b c:ByteArray} (h:Ak a b=true) (g:Ak b c=true):Ak a c=true:=IM.2 ((IM.1 h).trans (IM.1 g))
structure Wa (d:List AJ) (o:List ByteArray):Prop where
 decl:∀s∈o,0≤A8 d s
 nd:o.Pairwise fun a b=>Ak a b=false
theorem I2 (d:List AJ):∀ {o:List ByteArray},Wa d o→(o.map fun s=>(A8 d s).toNat).Nodup
 | [],_=>by simp
 | s :: o,h=>by
  rw[List.map_cons,List.nodup_cons]
  have hnd:=List.pairwise_cons.1 h.nd
  refine⟨fun hm=>?_,I2 d ⟨fun x hx=>h.decl x (by simp[hx]),hnd.2⟩⟩
  obtain⟨x,hx,e⟩:=List.mem_map.1 hm
  have h1:=h.decl s (by simp)
  have h2:=h.decl x (by simp[hx])
  rcases C0 d s with g|⟨_,_,g1⟩
  ·omega
  ·rcases C0 d x with g|⟨_,_,g2⟩
   ·omega
   ·rw[e]at g2
    have:=hnd.1 x hx
    rw[B2 (Eh g1) g2]at this
    cases this
theorem Wa.len {d:List AJ} {o:List ByteArray} (h:Wa d o):o.length≤d.length:=by
 have:=EB d.length (o.map fun s=>(A8 d s).toNat) (I2 d h) (fun j hj=>by
  obtain⟨s,hs,rfl⟩:=List.mem_map.1 hj
  have h1:=h.decl s hs
  rcases C0 d s with g|⟨_,g,_⟩<;>omega)
 simpa using this
theorem NG {o:List ByteArray} {s:ByteArray} (h:AY o s=false):∀x∈o,Ak x s=false:=fun x hx=>by
 cases hh:Ak x s with
 | false=>rfl
 | true=>exact absurd h (by rw[show AY o s=true from List.any_eq_true.2 ⟨x,hx,hh⟩];simp)
theorem gM {d:List AJ} {o:List ByteArray} (h:Wa d o) {s:ByteArray} (hs:0≤A8 d s):Wa d (KB o s):=by
 unfold KB
 split
 ·exact h
 ·rename_i hc
  have hc:AY o s=false:=by simpa using hc
  refine⟨fun x hx=>?_,?_⟩
  ·rcases List.mem_append.1 hx with hx|hx
   ·exact h.decl x hx
   ·have:x=s:=by simpa using hx
    rw[this];exact hs
  ·rw[List.pairwise_append]
   refine⟨h.nd,by simp,fun a ha b hb=>?_⟩
   have:b=s:=by simpa using hb
   rw[this]
   exact NG hc a ha
theorem Xm {d:List AJ}:∀ {l o:List ByteArray},(∀s∈l,0≤A8 d s)→Wa d o→Wa d (l.foldl KB o)∧o.length≤(l.foldl KB o).length
 | [],o,_,h=>⟨h,Nat.le_refl _⟩
 | s :: l,o,hl,h=>by
  obtain⟨g1,g2⟩:=Xm (l:=l) (fun x hx=>hl x (by simp[hx])) (gM h (hl s (by simp)))
  refine⟨g1,Nat.le_trans ?_ g2⟩
  unfold KB
  split<;>simp
theorem Xn {d:List AJ} (hd:Rr d) (s:ByteArray):∀x∈KC d s,0≤A8 d x:=by
 intro x hx
 unfold KC at hx
 by_cases h:(A8 d s).toNat<d.length
 ·exact hd _ (AE d d0 h) x hx
 ·rw[List.getD_eq_getElem?_getD,List.getElem?_eq_none (by omega)]at hx
  cases hx
def Vp:Ae:={ ins:=[EH,T9],pre:=fun(d,_,_)=>Rr d∧List.length d≤256,out:=fun(d,s,_)=>[.p Bl (MA d s)] }
theorem pG:Ag Tryz.prog 154 Vp:=by
 refine AR Tryz.func154 (by kernel_rfl) rfl Tryz.ntmps154 (by decide) (by kernel_rfl) (AF [(151,F2),(131,Dg),(122,L7)]) (AD J7 (AD Fm (AD OQ AH))) ?_
 rintro w0 O0 ⟨d,s,u⟩ hc ⟨⟨hdl,hall⟩,-⟩ ⟨hsup,hd⟩
 have hd:d.length≤256:=hd
 simp only[Vp,AN]
 repeat'(first|exact trivial|refine eS rfl ?_|refine AB ?_|refine rX [0,1,4,5,6,7,8,9,10,14,20,36,45,56] hc ?_ ?_|refine rC ?_ ?_<;>intro AA<;>try(cases AA;done))
 ·have h1:MA d s=[]:=by unfold MA;rw[if_pos AA]
  exact AG hc [.tmp 4] rfl (.inl rfl) (by simp) (by rw[h1];first|exact eR|refine Al ?_)
 ·have h1:MA d s=KD (I1 d d.length 0 [s]):=by unfold MA;rw[if_neg (Int.not_lt.2 AA)]
  have hA0:Wa d [s]:=⟨fun x hx=>by
   have:x=s:=by simpa using hx
   rw[this];exact AA,by simp⟩
  refine AK (ι:={x:Nat×List ByteArray//x.1≤x.2.length∧Wa d x.2∧I1 d (d.length-x.1) x.1 x.2=I1 d d.length 0 [s]}) (fun x=>⟨[(0,.p EH d),(1,.p T9 s),(5,.sr 16 T9 0 x.1.2.length),(6,.p (.int .i64) (x.1.1:Int))],[(16,.arr 9 T9 x.1.2)]⟩) (fun x=>d.length-x.1.1) ⟨(0,[s]),by simp,hA0,rfl⟩ (AC [(16,.nm 16)] rfl rfl ?_ ?_) (fun x=>?_)
  ·first|exact eN|refine eM ?_
  ·first|exact eN|refine eM ?_
  ·obtain⟨⟨i,o⟩,hi,hA,hg⟩:=x
   simp only at hi hA hg
   have hol:=hA.len
   simp only
   repeat'(first|exact trivial|refine eS rfl ?_|refine AB ?_|refine rX [0,1,4,5,6,7,8,9,10,14,20,36,45,56] hc ?_ ?_|refine rC ?_ ?_<;>intro AA<;>try(cases AA;done))
   ·have hi2:i<o.length:=by exact eV
    have hde:=hA.decl _ (AE o ByteArray.empty hi2)
    refine⟨AA,hde,?_⟩
    rcases C0 d (o.getD i ByteArray.empty) with g|⟨_,g,_⟩
    ·omega
    ·exact g
   ·have hi2:i<o.length:=by exact eV
    have hde:=hA.decl _ (AE o ByteArray.empty hi2)
    have hsd:=Xn hsup (o.getD i ByteArray.empty)
    have hnext:I1 d (d.length-(i+1)) (i+1) ((KC d (o.getD i ByteArray.empty)).foldl KB o)=I1 d d.length 0 [s]:=by
     rw[←hg]
     obtain⟨m,hm⟩:∃m,d.length-i=m+1:=⟨d.length-i-1,by omega⟩
     have hm2:d.length-(i+1)=m:=by omega
     rw[hm,hm2]
     show _=if i<o.length then I1 d m (i+1) ((KC d (o.getD i ByteArray.empty)).foldl KB o) else o
     rw[if_pos hi2]
    have hsl:(KC d (o.getD i ByteArray.empty)).length≤AO:=by
     rcases C0 d (o.getD i ByteArray.empty) with g|⟨_,g,_⟩
     ·omega
     ·exact(hall _ (AE d d0 (k:=(A8 d (o.getD i ByteArray.empty)).toNat) (by omega))).2.1.1
    have hsu:(List.getD d (A8 d (o.getD i ByteArray.empty)).toNat (ByteArray.empty,[],[])).2.1=KC d (o.getD i ByteArray.empty):=rfl
    rw[hsu]
    generalize KC d (o.getD i ByteArray.empty)=sup at *
    simp only[AO]at hsl
    refine AK (ι:={k:Nat//k≤sup.length}) (fun k=>⟨[(0,.p EH d),(1,.p T9 s),(5,.sr 16 T9 0 ((sup.take k.1).foldl KB o).length),(6,.p (.int .i64) (i:Int)),(7,.p Bl sup),(8,.p (.int .i64) (k.1:Int))],[(16,.arr 9 T9 ((sup.take k.1).foldl KB o))]⟩) (fun k=>sup.length-k.1) ⟨0,Nat.zero_le _⟩ (AC [(16,.nm 16)] rfl rfl ?_ ?_) (fun k=>?_)
    ·first|exact eN|refine eM ?_
     rfl
    ·first|exact eN|refine eM ?_
     rfl
    ·obtain⟨k,hk⟩:=k
     have hok:=Xm (l:=sup.take k) (o:=o) (fun x hx=>hsd x (List.mem_of_mem_take hx)) hA
     have hok2:=hok.1.len
     have hstep:=fun h:k<sup.length=>EC KB sup ByteArray.empty o h
     simp only
     generalize ho2:(sup.take k).foldl KB o=o2 at *
     repeat'(first|exact trivial|refine eS rfl ?_|refine AB ?_|refine rX [0,1,4,5,6,7,8,9,10,14,20,36,45,56] hc ?_ ?_|refine rC ?_ ?_<;>intro AA<;>try(cases AA;done))
     ·exact AA
     ·refine⟨by exact eV,?_⟩
      simp only[AO]
      dsimp only[Ty.den]at *
      omega
     ·exact eV
     ·have hk2:k<sup.length:=by exact eV
      have e:=hstep hk2
      have e2:KB o2 (sup.getD k ByteArray.empty)=o2++[sup.getD k ByteArray.empty]:=by unfold KB;rw[if_neg (by rw[AA];simp)]
      rw[e2]at e
      refine⟨⟨k+1,by omega⟩,by simp only;omega,AC [(16,.nm 16)] rfl rfl ?_ ?_⟩
      ·simp only[e]
       first|exact eN|refine eM ?_
      ·simp only[e]
       first|exact eN|refine eM ?_
     ·exact eV
     ·have hk2:k<sup.length:=by exact eV
      have e:=hstep hk2
      have e2:KB o2 (sup.getD k ByteArray.empty)=o2:=by unfold KB;rw[if_pos AA]
      rw[e2]at e
      refine⟨⟨k+1,by omega⟩,by simp only;omega,AC [(16,.nm 16)] rfl rfl ?_ ?_⟩
      ·simp only[e]
       first|exact eN|refine eM ?_
      ·simp only[e]
       first|exact eN|refine eM ?_
     ·exact eV
     ·have hk2:sup.take k=sup:=List.take_of_length_le (by exact eV)
      rw[hk2]at ho2
      rw[ho2]at hnext
      have hok1:=hok.1
      have hokl:=hok.2
      refine⟨⟨(i+1,o2),by simp only;omega,hok1,hnext⟩,by simp only;omega,AC [(16,.nm 16)] rfl rfl ?_ ?_⟩
      ·first|exact eN|refine eM ?_
      ·first|exact eN|refine eM ?_
   ·have hoe:o=I1 d d.length 0 [s]:=by
     rw[←hg]
     cases hm:d.length-i with
     | zero=>rfl
     | succ m =>
      show _=if i<o.length then _ else o
      rw[if_neg (by exact eV)]
    rw[←hoe]at h1
    refine AK (ι:={j:Nat//j≤o.length}) (fun j=>⟨[(0,.p EH d),(5,.sr 16 T9 0 o.length),(9,.p Bl ((o.take j.1).foldl Dh [])),(10,.p (.int .i64) (j.1:Int))],[(16,.arr 9 T9 o)]⟩) (fun j=>o.length-j.1) ⟨0,Nat.zero_le _⟩ (AC [(16,.nm 16)] rfl rfl ?_ ?_) (fun j=>?_)
    ·first|exact eN|refine eM ?_
    ·first|exact eN|refine eM ?_
     rfl
    ·obtain⟨j,hj⟩:=j
     have hsj:=fun h:j<o.length=>EC Dh o ByteArray.empty [] h
     simp only
     repeat'(first|exact trivial|refine eS rfl ?_|refine AB ?_|refine rX [0,1,4,5,6,7,8,9,10,14,20,36,45,56] hc ?_ ?_|refine rC ?_ ?_<;>intro AA<;>try(cases AA;done))
     ·refine⟨AA,?_⟩
      have:=UF (o.take j)
      have h3:=List.length_take_le j o
      unfold KD at this
      dsimp only[Ty.den]at *
      omega
     ·exact eV
     ·have hj2:j<o.length:=by exact eV
      have e:=hsj hj2
      refine⟨⟨j+1,by omega⟩,by simp only;omega,AC [(16,.nm 16)] rfl rfl ?_ ?_⟩
      ·first|exact eN|refine eM ?_
      ·simp only[e]
       first|exact eN|refine eM ?_
     ·have hj2:o.take j=o:=List.take_of_length_le (by exact eV)
      rw[hj2]
      exact AG hc [.tmp 4] rfl (.inl rfl) (by simp) (by rw[h1];unfold KD;first|exact eR|refine Al ?_)
end
/- Functions of grammarlabref03: Below. -/
section
attribute [local go_sem] F2 Dg L7
def Et (s:ByteArray) (o:List ByteArray) (x:AJ):List ByteArray:=if (AY x.2.1 s&&!AY o x.1)=true then o++[x.1] else o
def DL (d:List AJ):Nat→Nat→List ByteArray→List ByteArray
 | 0,_,o=>o
 | n+1,i,o=>if i<o.length then DL d n (i+1) (d.foldl (Et (o.getD i ByteArray.empty)) o) else o
def DM (d:List AJ) (s:ByteArray):List ByteArray:=if A8 d s<0 then [] else KD (DL d d.length 0 [s])
theorem Rs (s:ByteArray):∀(l:List AJ) (k:Nat) (x:AJ),x∈l→Ak x.1 s=true→0≤CO s k l
 | y :: l,k,x,hx,h=>by
  simp only[CO]
  split
  ·omega
  ·rename_i hc
   rcases List.mem_cons.1 hx with rfl|hx
   ·exact absurd h hc
   ·exact Rs s l (k+1) x hx h
theorem Ei {d:List AJ} {x:AJ} (hx:x∈d):0≤A8 d x.1:=Rs x.1 d 0 x hx (Eg _)
theorem wZ {d:List AJ} {o:List ByteArray} (h:Wa d o) (s:ByteArray) {x:AJ} (hx:x∈d):Wa d (Et s o x):=by
 unfold Et
 split
 ·rename_i hc
  rw[Bool.and_eq_true,Bool.not_eq_true']at hc
  have:=gM h (Ei hx)
  unfold KB at this
  rwa [if_neg (by rw[hc.2];simp)]at this
 ·exact h
theorem Ru {d:List AJ} (s:ByteArray):∀ {l:List AJ} {o:List ByteArray},(∀x∈l,x∈d)→Wa d o→Wa d (l.foldl (Et s) o)∧o.length≤(l.foldl (Et s) o).length
 | [],o,_,h=>⟨h,Nat.le_refl _⟩
 | x :: l,o,hl,h=>by
  obtain⟨g1,g2⟩:=Ru s (l:=l) (fun y hy=>hl y (by simp[hy])) (wZ h s (hl x (by simp)))
  refine⟨g1,Nat.le_trans ?_ g2⟩
  unfold Et
  split<;>simp
theorem OV (s:ByteArray) {i:Nat}:∀ {l:List AJ} {o:List ByteArray},i<o.length→(l.foldl (Et s) o).getD i ByteArray.empty=o.getD i ByteArray.empty
 | [],_,_=>rfl
 | x :: l,o,h=>by
  have h2:i<(Et s o x).length∧(Et s o x).getD i ByteArray.empty=o.getD i ByteArray.empty:=by
   unfold Et
   split
   ·refine⟨by rw[List.length_append];omega,?_⟩
    simp only[List.getD_eq_getElem?_getD]
    rw[List.getElem?_append_left h]
   ·exact⟨h,rfl⟩
  rw[List.foldl_cons,OV s h2.1,h2.2]
def Rv:Ae:={ ins:=[EH,T9],pre:=fun(d,_,_)=>List.length d≤256,out:=fun(d,s,_)=>[.p Bl (DM d s)] }
attribute [local go_sem] Rv
theorem pI:Ag Tryz.prog 130 Rv:=by
 refine AR Tryz.func130 (by kernel_rfl) rfl Tryz.ntmps130 (by decide) (by kernel_rfl) (AF [(151,F2),(131,Dg),(122,L7)]) (AD J7 (AD Fm (AD OQ AH))) ?_
 rintro w0 O0 ⟨d,s,u⟩ hc-hd
 have hd:d.length≤256:=hd
 simp only[Rv,AN]
 repeat'(first|exact trivial|refine eS rfl ?_|refine AB ?_|refine rX [0,1,4,5,6,7,8,9,13,19,25,47,59] hc ?_ ?_|refine rC ?_ ?_<;>intro AA<;>try(cases AA;done))
 ·have h1:DM d s=[]:=by unfold DM;rw[if_pos AA]
  exact AG hc [.tmp 4] rfl (.inl rfl) (by simp) (by rw[h1];first|exact eR|refine Al ?_)
 ·have h1:DM d s=KD (DL d d.length 0 [s]):=by unfold DM;rw[if_neg (Int.not_lt.2 AA)]
  have hA0:Wa d [s]:=⟨fun x hx=>by
   have:x=s:=by simpa using hx
   rw[this];exact AA,by simp⟩
  refine AK (ι:={x:Nat×List ByteArray//x.1≤x.2.length∧Wa d x.2∧DL d (d.length-x.1) x.1 x.2=DL d d.length 0 [s]}) (fun x=>⟨[(0,.p EH d),(5,.sr 15 T9 0 x.1.2.length),(6,.p (.int .i64) (x.1.1:Int))],[(15,.arr 9 T9 x.1.2)]⟩) (fun x=>d.length-x.1.1) ⟨(0,[s]),by simp,hA0,rfl⟩ (AC [(15,.nm 15)] rfl rfl ?_ ?_) (fun x=>?_)
  ·first|exact eN|refine eM ?_
  ·first|exact eN|refine eM ?_
  ·obtain⟨⟨i,o⟩,hi,hA,hg⟩:=x
   simp only at hi hA hg
   have hol:=hA.len
   simp only
   repeat'(first|exact trivial|refine eS rfl ?_|refine AB ?_|refine rX [0,1,4,5,6,7,8,9,13,19,25,47,59] hc ?_ ?_|refine rC ?_ ?_<;>intro AA<;>try(cases AA;done))
   ·have hi2:i<o.length:=by exact eV
    have hnext:DL d (d.length-(i+1)) (i+1) (d.foldl (Et (o.getD i ByteArray.empty)) o)=DL d d.length 0 [s]:=by
     rw[←hg]
     obtain⟨m,hm⟩:∃m,d.length-i=m+1:=⟨d.length-i-1,by omega⟩
     have hm2:d.length-(i+1)=m:=by omega
     rw[hm,hm2]
     show _=if i<o.length then DL d m (i+1) (d.foldl (Et (o.getD i ByteArray.empty)) o) else o
     rw[if_pos hi2]
    refine AK (ι:={k:Nat//k≤d.length}) (fun k=>⟨[(0,.p EH d),(5,.sr 15 T9 0 ((d.take k.1).foldl (Et (o.getD i ByteArray.empty)) o).length),(6,.p (.int .i64) (i:Int)),(7,.p (.int .i64) (k.1:Int))],[(15,.arr 9 T9 ((d.take k.1).foldl (Et (o.getD i ByteArray.empty)) o))]⟩) (fun k=>d.length-k.1) ⟨0,Nat.zero_le _⟩ (AC [(15,.nm 15)] rfl rfl ?_ ?_) (fun k=>?_)
    ·first|exact eN|refine eM ?_
     rfl
    ·first|exact eN|refine eM ?_
     rfl
    ·obtain⟨k,hk⟩:=k
     have hok:=Ru (o.getD i ByteArray.empty) (l:=d.take k) (o:=o) (fun x hx=>List.mem_of_mem_take hx) hA
     have hok2:=hok.1.len
     have hstep:=fun h:k<d.length=>EC (Et (o.getD i ByteArray.empty)) d d0 o h
     have hpre:((d.take k).foldl (Et (o.getD i ByteArray.empty)) o).getD i ByteArray.empty=o.getD i ByteArray.empty:=OV _ hi2
     simp only
     generalize ho2:(d.take k).foldl (Et (o.getD i ByteArray.empty)) o=o2 at *
     repeat'(first|exact trivial|refine eS rfl ?_|refine AB ?_|refine rX [0,1,4,5,6,7,8,9,13,19,25,47,59] hc ?_ ?_|refine rC ?_ ?_<;>intro AA<;>try(cases AA;done))
     ·have hl:=hok.2
      refine⟨AA,?_,fun _=>AA⟩
      dsimp only[Ty.den]at *
      omega
     ·refine⟨by assumption,?_⟩
      simp only[AO]
      dsimp only[Ty.den]at *
      omega
     ·exact eV
     ·have hk2:k<d.length:=by exact eV
      have e:=hstep hk2
      rw[hpre]at AA
      have e2:Et (o.getD i ByteArray.empty) o2 (d.getD k d0)=o2++[(d.getD k d0).1]:=by
       unfold Et;rw[if_pos (by rw[Bool.and_eq_true,Bool.not_eq_true'];exact AA)]
      rw[e2]at e
      refine⟨⟨k+1,by omega⟩,by simp only;omega,AC [(15,.nm 15)] rfl rfl ?_ ?_⟩
      ·simp only[e]
       first|exact eN|refine eM ?_
      ·simp only[e]
       first|exact eN|refine eM ?_
     ·exact eV
     ·have hk2:k<d.length:=by exact eV
      have e:=hstep hk2
      rw[hpre]at AA
      have e2:Et (o.getD i ByteArray.empty) o2 (d.getD k d0)=o2:=by
       unfold Et
       rw[if_neg]
       rw[Bool.and_eq_true,Bool.not_eq_true']
       rintro⟨h1,h2⟩
       rw[AA h1]at h2
       cases h2
      rw[e2]at e
      refine⟨⟨k+1,by omega⟩,by simp only;omega,AC [(15,.nm 15)] rfl rfl ?_ ?_⟩
      ·simp only[e]
       first|exact eN|refine eM ?_
      ·simp only[e]
       first|exact eN|refine eM ?_
     ·exact eV
     ·have hk2:d.take k=d:=List.take_of_length_le (by exact eV)
      rw[hk2]at ho2
      rw[ho2]at hnext
      have hok1:=hok.1
      have hokl:=hok.2
      refine⟨⟨(i+1,o2),by simp only;omega,hok1,hnext⟩,by simp only;omega,AC [(15,.nm 15)] rfl rfl ?_ ?_⟩
      ·first|exact eN|refine eM ?_
      ·first|exact eN|refine eM ?_
   ·have hoe:o=DL d d.length 0 [s]:=by
     rw[←hg]
     cases hm:d.length-i with
     | zero=>rfl
     | succ m =>
      show _=if i<o.length then _ else o
      rw[if_neg (by exact eV)]
    rw[←hoe]at h1
    refine AK (ι:={j:Nat//j≤o.length}) (fun j=>⟨[(0,.p EH d),(5,.sr 15 T9 0 o.length),(8,.p Bl ((o.take j.1).foldl Dh [])),(9,.p (.int .i64) (j.1:Int))],[(15,.arr 9 T9 o)]⟩) (fun j=>o.length-j.1) ⟨0,Nat.zero_le _⟩ (AC [(15,.nm 15)] rfl rfl ?_ ?_) (fun j=>?_)
    ·first|exact eN|refine eM ?_
    ·first|exact eN|refine eM ?_
     rfl
    ·obtain⟨j,hj⟩:=j
     have hsj:=fun h:j<o.length=>EC Dh o ByteArray.empty [] h
     simp only
     repeat'(first|exact trivial|refine eS rfl ?_|refine AB ?_|refine rX [0,1,4,5,6,7,8,9,13,19,25,47,59] hc ?_ ?_|refine rC ?_ ?_<;>intro AA<;>try(cases AA;done))
     ·refine⟨AA,?_⟩
      have:=UF (o.take j)
      have h3:=List.length_take_le j o
      unfold KD at this
      dsimp only[Ty.den]at *
      omega
     ·exact eV
     ·have hj2:j<o.length:=by exact eV
      have e:=hsj hj2
      refine⟨⟨j+1,by omega⟩,by simp only;omega,AC [(15,.nm 15)] rfl rfl ?_ ?_⟩
      ·first|exact eN|refine eM ?_
      ·simp only[e]
       first|exact eN|refine eM ?_
     ·have hj2:o.take j=o:=List.take_of_length_le (by exact eV)
      rw[hj2]
      exact AG hc [.tmp 4] rfl (.inl rfl) (by simp) (by rw[h1];unfold KD;first|exact eR|refine Al ?_)
end
/- Functions of grammarlabref03: declared, Maximal. -/
section
attribute [local go_sem] F2 L7 Vp Dg
def JO (d:List AJ) (o:List ByteArray) (x:ByteArray):List ByteArray:=if 0≤A8 d x then Dh o x else o
def CL (d:List AJ) (l:List ByteArray):List ByteArray:=l.foldl (JO d) []
theorem Ho (d:List AJ) (l:List ByteArray):(CL d l).length≤l.length:=by
 have key:∀(l o:List ByteArray),(l.foldl (JO d) o).length≤o.length+l.length:=by
  intro l
  induction l with
  | nil=>intro o;simp
  | cons x l ih =>
   intro o
   have h1:=ih (JO d o x)
   have h2:(JO d o x).length≤o.length+1:=by
    unfold JO
    split
    ·exact KA o x
    ·omega
   simp only[List.foldl_cons,List.length_cons]
   omega
 have:=key l []
 simpa[CL] using this
def K6:Ae:={ ins:=[EH,Bl],pre:=fun(_,l,_)=>List.length l≤100000,out:=fun(d,l,_)=>[.p Bl (CL d l)] }
attribute [local go_sem] K6
theorem Xo:Ag Tryz.prog 153 K6:=by
 refine AR Tryz.func153 (by kernel_rfl) rfl Tryz.ntmps153 (by decide) (by kernel_rfl) (AF [(151,F2),(122,L7)]) (AD J7 (AD OQ AH)) ?_
 rintro w0 O0 ⟨d,l,u⟩ hc-hl
 have hl:l.length≤100000:=hl
 simp only[K6,AN]
 repeat'(first|exact trivial|refine eS rfl ?_|refine AB ?_|refine rX [0,1,4,5,6,10,19] hc ?_ ?_|refine rC ?_ ?_<;>intro AA<;>try(cases AA;done))
 refine AK (ι:={k:Nat//k≤l.length}) (fun k=>⟨[(0,.p EH d),(1,.p Bl l),(5,.p Bl (CL d (l.take k.1))),(6,.p (.int .i64) (k.1:Int))],[]⟩) (fun k=>l.length-k.1) ⟨0,Nat.zero_le _⟩ (AC [] rfl rfl ?_ ?_) (fun k=>?_)
 ·first|exact eN|refine eM ?_
 ·first|exact eN|refine eM ?_
  rfl
 ·obtain⟨k,hk⟩:=k
  have hn:=Ho d (l.take k)
  have hn2:=List.length_take_le k l
  have hs:=fun h:k<l.length=>EC (JO d) l ByteArray.empty [] h
  simp only
  repeat'(first|exact trivial|refine eS rfl ?_|refine AB ?_|refine rX [0,1,4,5,6,10,19] hc ?_ ?_|refine rC ?_ ?_<;>intro AA<;>try(cases AA;done))
  ·exact AA
  ·exact⟨by assumption,by omega⟩
  ·exact eV
  ·have hk2:k<l.length:=by exact eV
   have e:CL d (l.take (k+1))=JO d (CL d (l.take k)) (l.getD k ByteArray.empty):=hs hk2
   unfold JO at e
   rw[if_pos AA]at e
   refine⟨⟨k+1,by omega⟩,by simp only;omega,AC [] rfl rfl ?_ ?_⟩
   ·first|exact eN|refine eM ?_
   ·simp only[e]
    first|exact eN|refine eM ?_
  ·exact eV
  ·have hk2:k<l.length:=by exact eV
   have e:CL d (l.take (k+1))=JO d (CL d (l.take k)) (l.getD k ByteArray.empty):=hs hk2
   unfold JO at e
   rw[if_neg (Int.not_le.2 AA)]at e
   refine⟨⟨k+1,by omega⟩,by simp only;omega,AC [] rfl rfl ?_ ?_⟩
   ·first|exact eN|refine eM ?_
   ·simp only[e]
    first|exact eN|refine eM ?_
  ·have hk2:l.take k=l:=List.take_of_length_le (by exact eV)
   rw[hk2]
   exact AG hc [.tmp 4] rfl (.inl rfl) (by simp) (by first|exact eR|refine Al ?_)
def pJ (d:List AJ) (all:List ByteArray) (i:Nat) (k:Nat):Bool:=(k:Int)==(i:Int)||!AY (MA d (all.getD i ByteArray.empty)) (all.getD k ByteArray.empty)
def UH (d:List AJ) (all:List ByteArray) (i n:Nat):Bool:=(List.range n).all (pJ d all i)
def QH (d:List AJ) (all:List ByteArray) (n:Nat):List ByteArray:=((List.range n).filter fun i=>UH d all i all.length).map fun i=>all.getD i ByteArray.empty
def Bt (d:List AJ) (l:List ByteArray):List ByteArray:=QH d (CL d l) (CL d l).length
theorem kS (d:List AJ) (all:List ByteArray) (n:Nat):QH d all (n+1)=QH d all n++if UH d all n all.length=true then [all.getD n ByteArray.empty] else []:=by
 unfold QH
 rw[List.range_succ,List.filter_append,List.map_append]
 congr 1
 rw[List.filter_cons,List.filter_nil]
 split<;>rfl
theorem Xp (d:List AJ) (all:List ByteArray) (n:Nat):(QH d all n).length≤n:=by
 unfold QH
 rw[List.length_map]
 exact Nat.le_trans (List.length_filter_le _ _) (by simp)
theorem Zg (d:List AJ) (all:List ByteArray) (i n:Nat):UH d all i (n+1)=(UH d all i n&&pJ d all i n):=by
 unfold UH
 rw[List.range_succ,List.all_append]
 simp
def Gj:Ae:={ ins:=[EH,Bl],pre:=fun(d,l,_)=>Rr d∧List.length d≤256∧List.length l≤100000,out:=fun(d,l,_)=>[.p Bl (Bt d l)] }
attribute [local go_sem] Gj
theorem Rw:Ag Tryz.prog 136 Gj:=by
 refine AR Tryz.func136 (by kernel_rfl) rfl Tryz.ntmps136 (by decide) (by kernel_rfl) (AF [(153,K6),(154,Vp),(131,Dg)]) (AD Xo (AD pG (AD Fm AH))) ?_
 rintro w0 O0 ⟨d,l,u⟩ hc-⟨hsup,hd,hl⟩
 have hd:d.length≤256:=hd
 have hl:l.length≤100000:=hl
 have hml:Bt d l=QH d (CL d l) (CL d l).length:=rfl
 have hal:=Ho d l
 simp only[Gj,AN]
 repeat'(first|exact trivial|refine eS rfl ?_|refine AB ?_|refine rX [0,1,4,5,6,7,8,9,10,17,29,47] hc ?_ ?_|refine rC ?_ ?_<;>intro AA<;>try(cases AA;done))
 ·exact hl
 ·rw[hml]
  generalize CL d l=all at *
  refine AK (ι:={i:Nat//i≤all.length}) (fun i=>⟨[(0,.p EH d),(5,.sr 54 T9 0 (QH d all i.1).length),(6,.p Bl all),(7,.p (.int .i64) (i.1:Int))],[(54,.arr 9 T9 (QH d all i.1))]⟩) (fun i=>all.length-i.1) ⟨0,Nat.zero_le _⟩ (AC [(54,.nil)] rfl rfl ?_ ?_) (fun i=>?_)
  ·first|exact eN|refine eM ?_
   rfl
  ·first|exact eN|refine eM ?_
   rfl
  ·obtain⟨i,hi⟩:=i
   have hgl:=Xp d all i
   have hgs:=kS d all i
   simp only
   repeat'(first|exact trivial|refine eS rfl ?_|refine AB ?_|refine rX [0,1,4,5,6,7,8,9,10,17,29,47] hc ?_ ?_|refine rC ?_ ?_<;>intro AA<;>try(cases AA;done))
   ·exact⟨AA,hsup,hd⟩
   ·have hi2:i<all.length:=by exact eV
    refine AK (ι:={k:Nat//k≤all.length}) (fun k=>⟨[(0,.p EH d),(5,.sr 54 T9 0 (QH d all i).length),(6,.p Bl all),(7,.p (.int .i64) (i:Int)),(8,.p Bl (MA d (all.getD i ByteArray.empty))),(9,.p .bool (UH d all i k.1)),(10,.p (.int .i64) (k.1:Int))],[(54,.arr 9 T9 (QH d all i))]⟩) (fun k=>all.length-k.1) ⟨0,Nat.zero_le _⟩ (AC [(54,.nm 54)] rfl rfl ?_ ?_) (fun k=>?_)
    ·first|exact eN|refine eM ?_
    ·first|exact eN|refine eM ?_
     rfl
    ·obtain⟨k,hk⟩:=k
     have hfs:=Zg d all i k
     simp only
     repeat'(first|exact trivial|refine eS rfl ?_|refine AB ?_|refine rX [0,1,4,5,6,7,8,9,10,17,29,47] hc ?_ ?_|refine rC ?_ ?_<;>intro AA<;>try(cases AA;done))
     ·exact fun _=>AA
     ·exact eV
     ·have hk2:k<all.length:=by exact eV
      refine⟨⟨k+1,by omega⟩,by simp only;omega,AC [(54,.nm 54)] rfl rfl ?_ ?_⟩
      ·first|exact eN|refine eM ?_
      ·simp only[hfs]
       unfold pJ
       first|exact eN|refine eM ?_
     ·refine⟨by assumption,?_⟩
      simp only[AO]
      omega
     ·exact eV
     ·have hk2:k=all.length:=by exact eV
      subst hk2
      rw[AA,if_pos rfl]at hgs
      refine⟨⟨i+1,by omega⟩,by simp only;omega,AC [(54,.nm 54)] rfl rfl ?_ ?_⟩
      ·simp only[hgs]
       first|exact eN|refine eM ?_
      ·simp only[hgs]
       first|exact eN|refine eM ?_
     ·exact eV
     ·have hk2:k=all.length:=by exact eV
      subst hk2
      rw[AA,if_neg (by simp),List.append_nil]at hgs
      refine⟨⟨i+1,by omega⟩,by simp only;omega,AC [(54,.nm 54)] rfl rfl ?_ ?_⟩
      ·simp only[hgs]
       first|exact eN|refine eM ?_
      ·simp only[hgs]
       first|exact eN|refine eM ?_
   ·have hi2:i=all.length:=by exact eV
    subst hi2
    refine GD [54] ?_
    exact AG hc [.tmp 4] rfl (.inl rfl) (by simp) (by first|exact eR|refine Al ?_)
end
/- Functions of grammarlabref02: Of. -/
section
attribute [local go_sem] E9
def kT (b:List Int) (x:Int):List Int:=b.set (x.tdiv 64).toNat (Bm .or .u64 (b.getD (x.tdiv 64).toNat 0) (P0 .u64 1 (x.tmod 64)))
def mP (l:List Int):List Int:=l.foldl kT (List.replicate 64 0)
def w3 (x:Int):Bool:=!(decide (x<0)||decide (4095<x))
def sY (l:List Int):List Int×Int:=if l.all w3=true then (BB (mP l),0) else ([],2)
theorem NH (l:List Int):(mP l).length=64:=by
 have key:∀(l b:List Int),(l.foldl kT b).length=b.length:=by
  intro l
  induction l with
  | nil=>intro b;rfl
  | cons x l ih =>
   intro b
   rw[List.foldl_cons,ih]
   simp[kT]
 unfold mP
 rw[key]
 simp
def ofS:Ae:={ ins:=[Bz],pre:=fun _=>True,out:=fun(l,_)=>[.p A7 (sY l).1,.p XZ (sY l).2] }
theorem A2i:Ag Tryz.prog 132 ofS:=by
 refine AR Tryz.func132 (by kernel_rfl) rfl Tryz.ntmps132 (by decide) (by kernel_rfl) (AF [(124,E9)]) (AD K4 AH) ?_
 rintro w0 O0 ⟨l,u⟩ hc ⟨⟨hl,-⟩,-⟩ -
 simp only[AO]at hl
 simp only[ofS,AN]
 repeat'(first|exact trivial|refine eS rfl ?_|refine AB ?_|refine rX [0,2,3,4,5,10,24] hc ?_ ?_|refine rC ?_ ?_<;>intro AA<;>try(cases AA;done))
 ·simp only[AO];omega
 ·refine AK (ι:={k:Nat//k≤l.length∧(l.take k).all w3=true}) (fun k=>⟨[(0,.p Bz l),(4,.sr 6 NC 0 (mP (l.take k.1)).length),(5,.p (.int .i64) (k.1:Int))],[(6,.arr 165 NC (mP (l.take k.1)))]⟩) (fun k=>l.length-k.1) ⟨0,Nat.zero_le _,rfl⟩ (AC [(6,.nm 6)] rfl rfl ?_ ?_) (fun k=>?_)
  ·first|exact eN|refine eM ?_
   rfl
  ·first|exact eN|refine eM ?_
   rfl
  ·obtain⟨k,hk,hf⟩:=k
   have hlen:=NH (l.take k)
   have hs:∀h:k<l.length,mP (l.take (k+1))=kT (mP (l.take k)) (l.getD k 0):=fun h=>EC kT l 0 _ h
   simp only
   repeat'(first|exact trivial|refine eS rfl ?_|refine AB ?_|refine rX [0,2,3,4,5,10,24] hc ?_ ?_|refine rC ?_ ?_<;>intro AA<;>try(cases AA;done))
   ·exact⟨AA,fun _=>AA⟩
   ·have hk2:k<l.length:=by exact eV
    have h1:sY l=([],2):=by
     unfold sY
     rw[if_neg]
     intro h
     have:=List.all_eq_true.1 h _ (AE l 0 hk2)
     unfold w3 at this
     rw[Bool.not_eq_true',Bool.or_eq_false_iff,decide_eq_false_iff_not,decide_eq_false_iff_not]at this
     rcases AA with h|h
     ·exact this.1 h
     ·exact this.2 h
    exact AG hc [.tmp 2,.tmp 3] rfl (.inl rfl) (by simp) (by rw[h1];first|exact eR|refine Al ?_)
   ·obtain⟨h0,h1⟩:=AA
    have e1:Int.tdiv (l.getD k 0) 64=l.getD k 0 / 64:=Int.tdiv_eq_ediv_of_nonneg h0
    have e2:Int.tmod (l.getD k 0) 64=l.getD k 0 % 64:=Int.tmod_eq_emod_of_nonneg h0
    rw[e1,e2,hlen]
    refine⟨?_,⟨by decide,?_,?_⟩,?_,⟨by decide,?_,?_⟩,⟨?_,?_⟩,?_,⟨by decide,?_,?_⟩,⟨?_,?_⟩,?_,?_,?_⟩<;>exact eV
   ·exact eV
   ·have hk2:k<l.length:=by exact eV
    have e:=hs hk2
    refine⟨⟨k+1,by omega,?_⟩,by simp only;omega,AC [(6,.nm 6)] rfl rfl ?_ ?_⟩
    ·rw[IL l 0 _ hk2,hf,Bool.true_and]
     unfold w3
     rw[Bool.not_eq_true',Bool.or_eq_false_iff,decide_eq_false_iff_not,decide_eq_false_iff_not]
     exact⟨Int.not_lt.2 AA.1,Int.not_lt.2 AA.2⟩
    ·simp only[e]
     first|exact eN|refine eM ?_
     rfl
    ·simp only[e]
     first|exact eN|refine eM ?_
     rw[←e,NH,NH]
   ·have hk2:l.take k=l:=List.take_of_length_le (by exact eV)
    rw[hk2]at hf ⊢
    have h1:sY l=(BB (mP l),0):=by unfold sY;rw[if_pos hf]
    have hlen2:=NH l
    refine GD [6] ?_
    repeat'(first|exact trivial|refine eS rfl ?_|refine AB ?_|refine rX [0,2,3,4,5,10,24] hc ?_ ?_|refine rC ?_ ?_<;>intro AA<;>try(cases AA;done))
    ·rw[hlen2];decide
    ·exact AG hc [.tmp 2,.tmp 3] rfl (.inl rfl) (by simp) (by rw[h1];first|exact eR|refine Al ?_)
end
/- Functions of grammarlabref04: in, Subsumes. -/
section
attribute [local go_sem] La K5
def Zh (l:List (List Int)) (b:List Int):Bool:=l.any fun x=>Gd x b
def w4:Ae:={ ins:=[QF,A7],pre:=fun _=>True,out:=fun(l,b,_)=>[.p .bool (Zh l b)],lend:=true }
theorem A01:Ag Tryz.prog 133 w4:=by
 refine AR Tryz.func133 (by kernel_rfl) rfl Tryz.ntmps133 (by decide) (by kernel_rfl) (AF [(125,La)]) (AD Vm AH) ?_
 rintro w0 O0 ⟨l,n,u⟩ hc ⟨⟨hl,-⟩,-⟩ -
 simp only[AO]at hl
 simp only[w4,AN]
 repeat'(first|exact trivial|refine eS rfl ?_|refine AB ?_|refine rX [0,1,4,5,9,17] hc ?_ ?_|refine rC ?_ ?_<;>intro AA<;>try(cases AA;done))
 refine AK (ι:={k:Nat//k≤l.length∧(l.take k).any (fun x=>Gd x n)=false}) (fun k=>⟨[(0,.p QF l),(1,.p A7 n),(5,.p (.int .i64) (k.1:Int))],[]⟩) (fun k=>l.length-k.1) ⟨0,by simp⟩ (AC [] rfl rfl ?_ ?_) (fun k=>?_)
 ·first|exact eN|refine eM ?_
 ·first|exact eN|refine eM ?_
 ·obtain⟨k,hk,hany⟩:=k
  repeat'(first|exact trivial|refine eS rfl ?_|refine AB ?_|refine rX [0,1,4,5,9,17] hc ?_ ?_|refine rC ?_ ?_<;>intro AA<;>try(cases AA;done))
  ·exact eV
  ·have hkl:k<l.length:=by exact eV
   have h1:Zh l n=true:=Fl l [] _ hkl AA
   exact AG hc [.tmp 4] rfl (.inl rfl) (by simp) (by rw[h1];first|exact eR|refine Al ?_)
  ·exact eV
  ·have hkl:k<l.length:=by exact eV
   refine⟨⟨k+1,by exact eV,?_⟩,by simp only;exact eV,AC [] rfl rfl ?_ ?_⟩
   ·rw[K3 l [] _ hkl,hany];exact AA
   ·first|exact eN|refine eM ?_
   ·first|exact eN|refine eM ?_
  ·have hk:l.take k=l:=List.take_of_length_le (by exact eV)
   rw[hk]at hany
   have h1:Zh l n=false:=hany
   exact AG hc [.tmp 4] rfl (.inl rfl) (by simp) (by rw[h1];first|exact eR|refine Al ?_)
abbrev AQ:=ByteArray×List Int
abbrev c0:AQ:=(ByteArray.empty,[])
def Lc (l:List AQ) (i j:Int):Bool:=Eb (l.getD j.toNat c0).2 (l.getD i.toNat c0).2
def UI:Ae:={ ins:=[IK,T3,T3],pre:=fun(l,i,j,_)=>((0:Int)≤i∧i<(List.length l:Int))∧((0:Int)≤j∧j<(List.length l:Int))∧(∀x∈(l:List AQ),x.2.length≤100000),out:=fun(l,i,j,_)=>[.p .bool (Lc l i j)],lend:=true }
theorem gN:Ag Tryz.prog 94 UI:=by
 refine AR Tryz.func94 (by kernel_rfl) rfl Tryz.ntmps94 (by decide) (by kernel_rfl) (AF [(138,K5)]) (AD UD AH) ?_
 rintro w0 O0 ⟨l,i,j,u⟩ hc-⟨hi,hj,hx⟩
 simp only[UI,AN]
 repeat'(first|exact trivial|refine eS rfl ?_|refine AB ?_|refine rX [0,1,2,6] hc ?_ ?_|refine rC ?_ ?_<;>intro AA<;>try(cases AA;done))
 ·exact⟨hj,hi,hx _ (AE (l:List AQ) c0 (by exact eV))⟩
 ·exact AG hc [.tmp 6] rfl (.inl rfl) (by simp) (by unfold Lc;first|exact eR|refine Al ?_)
end
/- Functions of grammarlabref05: number. -/
section
attribute [local go_sem] La
def OW (s:ByteArray):Nat→List AQ→Int
 | _,[]=>-1
 | k,x :: l=>if Ak x.1 s=true then (k:Int) else OW s (k+1) l
def Cp (l:List AQ) (s:ByteArray):Int:=OW s 0 l
theorem UJ (s:ByteArray) (l:List AQ) {k:Nat} (h:k<l.length):OW s k (l.drop k)=if Ak (l.getD k c0).1 s=true then (k:Int) else OW s (k+1) (l.drop (k+1)):=by
 rw[List.drop_eq_getElem_cons h]
 have e:l.getD k c0=l[k]:=by simp[List.getD_eq_getElem?_getD,h]
 rw[e]
 rfl
def K7:Ae:={ ins:=[IK,T9],pre:=fun _=>True,out:=fun(l,s,_)=>[.p T3 (Cp l s)],lend:=true }
theorem UK:Ag Tryz.prog 96 K7:=by
 refine AR Tryz.func96 (by kernel_rfl) rfl Tryz.ntmps96 (by decide) (by kernel_rfl) (AF []) AH ?_
 rintro w0 O0 ⟨l,s,u⟩ hc ⟨⟨hl,-⟩,-⟩ -
 simp only[AO]at hl
 simp only[K7,AN]
 repeat'(first|exact trivial|refine eS rfl ?_|refine AB ?_|refine rX [0,1,4,5,9,18] hc ?_ ?_|refine rC ?_ ?_<;>intro AA<;>try(cases AA;done))
 refine AK (ι:={k:Nat//k≤l.length∧OW s k (l.drop k)=Cp l s}) (fun k=>⟨[(0,.p IK l),(1,.p T9 s),(5,.p (.int .i64) (k.1:Int))],[]⟩) (fun k=>l.length-k.1) ⟨0,Nat.zero_le _,rfl⟩ (AC [] rfl rfl ?_ ?_) (fun k=>?_)
 ·first|exact eN|refine eM ?_
 ·first|exact eN|refine eM ?_
 ·obtain⟨k,hk,hf⟩:=k
  simp only
  repeat'(first|exact trivial|refine eS rfl ?_|refine AB ?_|refine rX [0,1,4,5,9,18] hc ?_ ?_|refine rC ?_ ?_<;>intro AA<;>try(cases AA;done))
  ·exact AA
  ·have hk2:k<l.length:=by exact eV
   rw[UJ s l hk2,if_pos AA]at hf
   exact AG hc [.tmp 4] rfl (.inl rfl) (by simp) (by rw[←hf];first|exact eR|refine Al ?_)
  ·exact eV
  ·have hk2:k<l.length:=by exact eV
   rw[UJ s l hk2,if_neg (by rw[AA];simp)]at hf
   refine⟨⟨k+1,by omega,hf⟩,by simp only;omega,AC [] rfl rfl ?_ ?_⟩
   ·first|exact eN|refine eM ?_
   ·first|exact eN|refine eM ?_
  ·have hk2:l.drop k=[]:=List.drop_eq_nil_of_le (by exact eV)
   rw[hk2]at hf
   exact AG hc [.tmp 4] rfl (.inl rfl) (by simp) (by rw[←hf];first|exact eR|refine Al ?_;rfl)
end
/- Functions of grammarlabref04: Find. -/
section
attribute [local go_sem] La E9
def Rx (s:List Int):Nat→List AQ→Int
 | _,[]=>-1
 | k,x :: l=>if Gd x.2 s=true then (k:Int) else Rx s (k+1) l
def Vq (l:List AQ) (b:List Int):Int:=Rx (BB b) 0 l
theorem Ry (s:List Int) (l:List AQ) {k:Nat} (h:k<l.length):Rx s k (l.drop k)=if Gd (l.getD k c0).2 s=true then (k:Int) else Rx s (k+1) (l.drop (k+1)):=by
 rw[List.drop_eq_getElem_cons h]
 have e:l.getD k c0=l[k]:=by simp[List.getD_eq_getElem?_getD,h]
 rw[e]
 rfl
def Vr:Ae:={ ins:=[IK,A7],pre:=fun(_,b,_)=>List.length b≤100000,out:=fun(l,b,_)=>[.p T3 (Vq l b)],lend:=true }
theorem pK:Ag Tryz.prog 87 Vr:=by
 refine AR Tryz.func87 (by kernel_rfl) rfl Tryz.ntmps87 (by decide) (by kernel_rfl) (AF [(124,E9),(125,La)]) (AD K4 (AD Vm AH)) ?_
 rintro w0 O0 ⟨l,b,u⟩ hc ⟨⟨hl,-⟩,-⟩ hb
 simp only[AO]at hl
 simp only[Vr,AN]
 repeat'(first|exact trivial|refine eS rfl ?_|refine AB ?_|refine rX [0,1,4,5,6,12,21] hc ?_ ?_|refine rC ?_ ?_<;>intro AA<;>try(cases AA;done))
 ·exact hb
 ·have hcg:Vq l b=Rx (BB b) 0 l:=rfl
  rw[hcg]
  generalize BB b=s at *
  refine AK (ι:={k:Nat//k≤l.length∧Rx s k (l.drop k)=Rx s 0 l}) (fun k=>⟨[(0,.p IK l),(5,.p A7 s),(6,.p (.int .i64) (k.1:Int))],[]⟩) (fun k=>l.length-k.1) ⟨0,Nat.zero_le _,rfl⟩ (AC [] rfl rfl ?_ ?_) (fun k=>?_)
  ·first|exact eN|refine eM ?_
  ·first|exact eN|refine eM ?_
  ·obtain⟨k,hk,hf⟩:=k
   simp only
   repeat'(first|exact trivial|refine eS rfl ?_|refine AB ?_|refine rX [0,1,4,5,6,12,21] hc ?_ ?_|refine rC ?_ ?_<;>intro AA<;>try(cases AA;done))
   ·exact AA
   ·have hk2:k<l.length:=by exact eV
    rw[Ry s l hk2,if_pos AA]at hf
    exact AG hc [.tmp 4] rfl (.inl rfl) (by simp) (by rw[←hf];first|exact eR|refine Al ?_)
   ·exact eV
   ·have hk2:k<l.length:=by exact eV
    rw[Ry s l hk2,if_neg (by rw[AA];simp)]at hf
    refine⟨⟨k+1,by omega,hf⟩,by simp only;omega,AC [] rfl rfl ?_ ?_⟩
    ·first|exact eN|refine eM ?_
    ·first|exact eN|refine eM ?_
   ·have hk2:l.drop k=[]:=List.drop_eq_nil_of_le (by exact eV)
    rw[hk2]at hf
    exact AG hc [.tmp 4] rfl (.inl rfl) (by simp) (by rw[←hf];first|exact eR|refine Al ?_;rfl)
end
/- Functions of grammarlabref05: value. -/
section
attribute [local go_sem] La
def Xq (s:ByteArray):List (ByteArray×ByteArray)→ByteArray×Bool
 | []=>(ByteArray.empty,false)
 | x :: l=>if Ak x.1 s=true then (x.2,true) else Xq s l
def FT (x:AJ) (s:ByteArray):ByteArray×Bool:=Xq s x.2.2
theorem UL (s:ByteArray) (l:List (ByteArray×ByteArray)) {k:Nat} (h:k<l.length):Xq s (l.drop k)=if Ak (l.getD k (ByteArray.empty,ByteArray.empty)).1 s=true then ((l.getD k (ByteArray.empty,ByteArray.empty)).2,true) else Xq s (l.drop (k+1)):=by
 rw[List.drop_eq_getElem_cons h]
 have e:l.getD k (ByteArray.empty,ByteArray.empty)=l[k]:=by simp[List.getD_eq_getElem?_getD,h]
 rw[e]
 rfl
def OX:Ae:={ ins:=[kF,T9],pre:=fun _=>True,out:=fun(x,s,_)=>[.p T9 (FT x s).1,.p .bool (FT x s).2],lend:=true }
theorem Xr:Ag Tryz.prog 123 OX:=by
 refine AR Tryz.func123 (by kernel_rfl) rfl Tryz.ntmps123 (by decide) (by kernel_rfl) (AF []) AH ?_
 rintro w0 O0 ⟨⟨nm,sup,fe⟩,s,u⟩ hc ⟨⟨-,-,hfe,-⟩,-⟩ -
 simp only[AO]at hfe
 simp only[OX,AN]
 repeat'(first|exact trivial|refine eS rfl ?_|refine AB ?_|refine rX [0,1,2,4,5,6,11,21] hc ?_ ?_|refine rC ?_ ?_<;>intro AA<;>try(cases AA;done))
 have hz:({ data:=#[] }:ByteArray).size≤AO:=by decide
 rw[if_pos hz]
 refine AK (ι:={k:Nat//k≤fe.length∧Xq s (fe.drop k)=FT (nm,sup,fe) s}) (fun k=>⟨[(1,.p T9 s),(2,.bp 2 [] 0),(6,.p (.int .i64) (k.1:Int))],[(2,.box 119 true [.p T9 nm,.p Bl sup,.p Xb fe])]⟩) (fun k=>fe.length-k.1) ⟨0,Nat.zero_le _,rfl⟩ (AC [(2,.nm 2)] rfl rfl ?_ ?_) (fun k=>?_)
 ·first|exact eN|refine eM ?_
 ·first|exact eN|refine eM ?_
 ·obtain⟨k,hk,hf⟩:=k
  simp only
  repeat'(first|exact trivial|refine eS rfl ?_|refine AB ?_|refine rX [0,1,2,4,5,6,11,21] hc ?_ ?_|refine rC ?_ ?_<;>intro AA<;>try(cases AA;done))
  ·exact AA
  ·assumption
  ·have hk2:k<fe.length:=by exact eV
   rw[UL s fe hk2,if_pos AA]at hf
   exact AG hc [.tmp 4,.tmp 5] rfl (.inl rfl) (by simp) (by rw[←hf];first|exact eR|refine Al ?_)
  ·exact eV
  ·have hk2:k<fe.length:=by exact eV
   rw[UL s fe hk2,if_neg (by rw[AA];simp)]at hf
   refine⟨⟨k+1,by omega,hf⟩,by simp only;omega,AC [(2,.nm 2)] rfl rfl ?_ ?_⟩
   ·first|exact eN|refine eM ?_
   ·first|exact eN|refine eM ?_
  ·have hk2:fe.drop k=[]:=List.drop_eq_nil_of_le (by exact eV)
   rw[hk2]at hf
   rw[if_pos hz]
   exact AG hc [.tmp 4,.tmp 5] rfl (.inl rfl) (by simp) (by rw[←hf];first|exact eR|refine Al ?_;exact⟨rfl,rfl⟩)
end
/- Functions of grammarlabref04: before. -/
section
attribute [local go_sem] Vn
def FB (a b:AQ):Bool:=decide (((Ge b.2).length:Int)<((Ge a.2).length:Int))||((Ge a.2).length:Int)==((Ge b.2).length:Int)&&F6 a.1 b.1
def QY:Ae:={ ins:=[Vh,Vh],pre:=fun(a,b,_)=>List.length (a:AQ).2≤100000∧List.length (b:AQ).2≤100000,out:=fun(a,b,_)=>[.p .bool (FB a b)],lend:=true }
theorem kU:Ag Tryz.prog 93 QY:=by
 refine AR Tryz.func93 (by kernel_rfl) rfl Tryz.ntmps93 (by decide) (by kernel_rfl) (AF [(137,Vn)]) (AD pC AH) ?_
 rintro w0 O0 ⟨⟨an,ac⟩,⟨bn,bc⟩,u⟩ hc-⟨ha,hb⟩
 simp only[QY,AN]
 repeat'(first|exact trivial|refine eS rfl ?_|refine AB ?_|refine rX [0,1,2,3,4,5,6] hc ?_ ?_|refine rC ?_ ?_<;>intro AA<;>try(cases AA;done))
 ·exact ha
 ·exact hb
 ·exact AG hc [.tmp 4] rfl (.inl rfl) (by simp) (by unfold FB;first|exact eR|refine Al ?_)
end
/- Functions of grammarlabref04: code. -/
section
attribute [local go_sem] Rv Dg ofS
def MB (low all:List ByteArray) (n:Nat):List Int:=((List.range n).filter fun(i:Nat)=>AY low (all.getD i ByteArray.empty)).map fun(i:Nat)=>(i:Int)
theorem kV (low all:List ByteArray) (n:Nat):MB low all (n+1)=MB low all n++if AY low (all.getD n ByteArray.empty)=true then [(n:Int)] else []:=by
 unfold MB
 rw[List.range_succ,List.filter_append,List.map_append]
 congr 1
 rw[List.filter_cons,List.filter_nil]
 split<;>rfl
theorem pL (low all:List ByteArray) (n:Nat):(MB low all n).length≤n:=by
 unfold MB
 rw[List.length_map]
 exact Nat.le_trans (List.length_filter_le _ _) (by simp)
def F8 (d:List AJ) (all:List ByteArray) (s:ByteArray):List Int:=(sY (MB (DM d s) all all.length)).1
def gP:Ae:={ ins:=[EH,Bl,T9],pre:=fun(d,l,_,_)=>List.length d≤256∧List.length l≤100000,out:=fun(d,l,s,_)=>[.p A7 (F8 d l s)] }
theorem w5:Ag Tryz.prog 90 gP:=by
 refine AR Tryz.func90 (by kernel_rfl) rfl Tryz.ntmps90 (by decide) (by kernel_rfl) (AF [(130,Rv),(131,Dg),(132,ofS)]) (AD pI (AD Fm (AD A2i AH))) ?_
 rintro w0 O0 ⟨d,l,s,u⟩ hc-⟨hd,hl⟩
 have hl:l.length≤100000:=hl
 have hcf:F8 d l s=(sY (MB (DM d s) l l.length)).1:=rfl
 simp only[gP,AN]
 repeat'(first|exact trivial|refine eS rfl ?_|refine AB ?_|refine rX [0,1,2,6,7,8,9,10,18,26] hc ?_ ?_|refine rC ?_ ?_<;>intro AA<;>try(cases AA;done))
 ·exact hd
 ·rw[hcf]
  generalize DM d s=low at *
  refine AK (ι:={n:Nat//n≤l.length}) (fun n=>⟨[(0,.p EH d),(1,.p Bl l),(2,.p T9 s),(7,.p Bl low),(8,.sr 30 T3 0 (MB low l n.1).length),(9,.p (.int .i64) (n.1:Int))],[(30,.arr 3 T3 (MB low l n.1))]⟩) (fun n=>l.length-n.1) ⟨0,Nat.zero_le _⟩ (AC [(30,.nil)] rfl rfl ?_ ?_) (fun n=>?_)
  ·first|exact eN|refine eM ?_
   rfl
  ·first|exact eN|refine eM ?_
   rfl
  ·obtain⟨n,hn⟩:=n
   have hz:=pL low l n
   have hs:=kV low l n
   simp only
   repeat'(first|exact trivial|refine eS rfl ?_|refine AB ?_|refine rX [0,1,2,6,7,8,9,10,18,26] hc ?_ ?_|refine rC ?_ ?_<;>intro AA<;>try(cases AA;done))
   ·exact AA
   ·rw[AA,if_pos rfl]at hs
    simp only[AO]
    dsimp only[Ty.den]at *
    omega
   ·exact eV
   ·have hn2:n<l.length:=by exact eV
    rw[AA,if_pos rfl]at hs
    refine⟨⟨n+1,by omega⟩,by simp only;omega,AC [(30,.nm 30)] rfl rfl ?_ ?_⟩
    ·simp only[hs]
     first|exact eN|refine eM ?_
    ·simp only[hs]
     first|exact eN|refine eM ?_
   ·exact eV
   ·have hn2:n<l.length:=by exact eV
    rw[AA,if_neg (by simp),List.append_nil]at hs
    refine⟨⟨n+1,by omega⟩,by simp only;omega,AC [(30,.nm 30)] rfl rfl ?_ ?_⟩
    ·simp only[hs]
     first|exact eN|refine eM ?_
    ·simp only[hs]
     first|exact eN|refine eM ?_
   ·have hn2:n=l.length:=by exact eV
    subst hn2
    refine GD [30] ?_
    repeat'(first|exact trivial|refine eS rfl ?_|refine AB ?_|refine rX [0,1,2,6,7,8,9,10,18,26] hc ?_ ?_|refine rC ?_ ?_<;>intro AA<;>try(cases AA;done))
    exact AG hc [.tmp 6] rfl (.inl rfl) (by simp) (by first|exact eR|refine Al ?_)
end
/- Functions of grammarlabref05: feats. -/
section
attribute [local go_sem] L7
def NI (o:List ByteArray) (f:ByteArray×ByteArray):List ByteArray:=Dh o f.1
def OY (o:List ByteArray) (x:AJ):List ByteArray:=x.2.2.foldl NI o
def DN (d:List AJ):List ByteArray:=d.foldl OY []
theorem UM (l:List (ByteArray×ByteArray)):∀o:List ByteArray,(l.foldl NI o).length≤o.length+l.length:=by
 induction l with
 | nil=>intro o;simp
 | cons x l ih =>
  intro o
  have h1:=ih (NI o x)
  have h2:(NI o x).length≤o.length+1:=KA o x.1
  simp only[List.foldl_cons,List.length_cons]
  omega
theorem Zi {d:List AJ} (h:∀x∈d,x.2.2.length≤256):∀(l:List AJ),(∀x∈l,x∈d)→∀o:List ByteArray,(l.foldl OY o).length≤o.length+256*l.length:=by
 intro l
 induction l with
 | nil=>intro _ o;simp
 | cons x l ih =>
  intro hl o
  have h1:=ih (fun y hy=>hl y (by simp[hy])) (OY o x)
  have h2:=UM x.2.2 o
  have h3:=h x (hl x (by simp))
  have h4:(OY o x).length=(x.2.2.foldl NI o).length:=rfl
  simp only[List.foldl_cons,List.length_cons]
  omega
def KE:Ae:={ ins:=[EH],pre:=fun(d,_)=>List.length d≤256∧(∀x∈(d:List AJ),x.2.2.length≤256),out:=fun(d,_)=>[.p Bl (DN d)] }
theorem Rz:Ag Tryz.prog 85 KE:=by
 refine AR Tryz.func85 (by kernel_rfl) rfl Tryz.ntmps85 (by decide) (by kernel_rfl) (AF [(122,L7)]) (AD OQ AH) ?_
 rintro w0 O0 ⟨d,u⟩ hc-⟨hd,hx⟩
 have hd:d.length≤256:=hd
 simp only[KE,AN]
 repeat'(first|exact trivial|refine eS rfl ?_|refine AB ?_|refine rX [0,2,3,4,5,9,19] hc ?_ ?_|refine rC ?_ ?_<;>intro AA<;>try(cases AA;done))
 refine AK (ι:={i:Nat//i≤d.length}) (fun i=>⟨[(0,.p EH d),(3,.p Bl (DN (d.take i.1))),(4,.p (.int .i64) (i.1:Int))],[]⟩) (fun i=>d.length-i.1) ⟨0,Nat.zero_le _⟩ (AC [] rfl rfl ?_ ?_) (fun i=>?_)
 ·first|exact eN|refine eM ?_
 ·first|exact eN|refine eM ?_
  rfl
 ·obtain⟨i,hi⟩:=i
  have hlen:=Zi hx (d.take i) (fun x h=>List.mem_of_mem_take h) []
  have htl:=List.length_take_le i d
  have hs:=fun h:i<d.length=>EC OY d d0 [] h
  have hfe:∀e,DN e=e.foldl OY []:=fun _=>rfl
  simp only
  repeat'(first|exact trivial|refine eS rfl ?_|refine AB ?_|refine rX [0,2,3,4,5,9,19] hc ?_ ?_|refine rC ?_ ?_<;>intro AA<;>try(cases AA;done))
  ·have hi2:i<d.length:=by exact eV
   have hxi:=hx _ (AE d d0 hi2)
   have hs:=hs hi2
   rw[←hfe,←hfe]at hs
   rw[←hfe]at hlen
   generalize DN (d.take i)=o at *
   refine AK (ι:={k:Nat//k≤(d.getD i d0).2.2.length}) (fun k=>⟨[(0,.p EH d),(3,.p Bl (((d.getD i d0).2.2.take k.1).foldl NI o)),(4,.p (.int .i64) (i:Int)),(5,.p (.int .i64) (k.1:Int))],[]⟩) (fun k=>(d.getD i d0).2.2.length-k.1) ⟨0,Nat.zero_le _⟩ (AC [] rfl rfl ?_ ?_) (fun k=>?_)
   ·first|exact eN|refine eM ?_
   ·first|exact eN|refine eM ?_
    rfl
   ·obtain⟨k,hk⟩:=k
    have hk':k≤(d.getD i d0).2.2.length:=hk
    have hfl:=UM ((d.getD i d0).2.2.take k) o
    have hkl:=List.length_take_le k (d.getD i d0).2.2
    have hss:=fun h:k<(d.getD i d0).2.2.length=>EC NI (d.getD i d0).2.2 (ByteArray.empty,ByteArray.empty) o h
    simp only
    repeat'(first|exact trivial|refine eS rfl ?_|refine AB ?_|refine rX [0,2,3,4,5,9,19] hc ?_ ?_|refine rC ?_ ?_<;>intro AA<;>try(cases AA;done))
    ·assumption
    ·refine⟨by assumption,AA,?_⟩
     simp only[List.length_nil]at hlen
     dsimp only[Ty.den]at *
     omega
    ·have h1:(k:Int)<((d.getD i d0).2.2.length:Int):=AA
     exact eV
    ·have hk2:k<(d.getD i d0).2.2.length:=Int.ofNat_lt.1 AA
     have e:=hss hk2
     refine⟨⟨k+1,hk2⟩,by simp only;omega,AC [] rfl rfl ?_ ?_⟩
     ·first|exact eN|refine eM ?_
     ·simp only[e]
      unfold NI
      first|exact eN|refine eM ?_
    ·have:=hd
     exact eV
    ·have hk2:(d.getD i d0).2.2.take k=(d.getD i d0).2.2:=List.take_of_length_le (Int.ofNat_le.1 AA)
     have e:DN (d.take (i+1))=((d.getD i d0).2.2.take k).foldl NI o:=by rw[hk2];exact hs
     refine⟨⟨i+1,hi2⟩,by simp only;omega,AC [] rfl rfl ?_ ?_⟩
     ·first|exact eN|refine eM ?_
     ·simp only[e]
      first|exact eN|refine eM ?_
  ·have hk2:d.take i=d:=List.take_of_length_le (by exact eV)
   rw[hk2]
   exact AG hc [.tmp 2] rfl (.inl rfl) (by simp) (by first|exact eR|refine Al ?_)
end
/- What a hierarchy that passes grammarlabref03.Check is: all supertypes are declared. -/
section
theorem UN {d:List AJ} {l:List ByteArray}:∀ {r:List ByteArray} {k:Nat},QG d l k r=0→∀s∈r,0≤A8 d s
 | [],_,_,s,hs=>by cases hs
 | x :: r,k,h,s,hs=>by
  simp only[QG]at h
  split at h
  ·cases h
  ·rename_i h1
   split at h
   ·cases h
   ·rcases List.mem_cons.1 hs with rfl|hs
    ·omega
    ·exact UN h s hs
theorem NJ {d:List AJ}:∀ {l:List AJ},Iy d l=0→∀x∈l,∀s∈x.2.1,0≤A8 d s
 | [],_,x,hx=>by cases hx
 | y :: l,h,x,hx=>by
  simp only[Iy]at h
  split at h
  ·rename_i h1;exact absurd h h1
  ·rename_i h1
   rcases List.mem_cons.1 hx with rfl|hx
   ·exact UN (Classical.byContradiction h1)
   ·exact NJ h x hx
theorem pM {d:List AJ} (h:Iz d=0):Rr d:=NJ h
theorem A3 {d:List AJ} (h:BE d=0):Rr d∧d.length≤256∧Gi d=1∧DK d=0∧d.length≤(BW d).length:=by
 unfold BE at h
 split at h
 ·rename_i h1;exact absurd h h1
 ·rename_i h1
  split at h
  ·rename_i h2;exact absurd h h2
  ·rename_i h2
   split at h
   ·rename_i h3;exact absurd h h3
   ·rename_i h3
    split at h
    ·cases h
    ·rename_i h4
     split at h
     ·cases h
     ·rename_i h5
      exact⟨pM (Classical.byContradiction h3),Pe (Classical.byContradiction h1),Classical.byContradiction h4,Classical.byContradiction h2,by omega⟩
end
/- Functions of grammarlabref04: family. -/
section
attribute [local go_sem] w4 Xj
def F3 (l:List (List Int)) (i k:Nat):List (List Int) :=
 if (decide (0<((FE (l.getD i []) (l.getD k [])).length:Int))&&!Zh l (FE (l.getD i []) (l.getD k [])))=true then l++[FE (l.getD i []) (l.getD k [])] else l
def F4 (i:Nat):Nat→Nat→List (List Int)→List (List Int)
 | 0,_,l=>l
 | n+1,k,l=>if l.length≤256 then F4 i n (k+1) (F3 l i k) else l
def Hq:Nat→Nat→List (List Int)→List (List Int)
 | 0,_,l=>l
 | n+1,i,l=>if i<l.length∧l.length≤256 then Hq n (i+1) (F4 i i 0 l) else l
def Ay (c:List (List Int)):List (List Int):=Hq 257 0 c
theorem Xs (a b:List Int):(FE a b).length≤a.length:=by
 unfold FE BB
 have:=Dx .and a b a.length
 rw[List.length_take]
 omega
structure y5 (l:List (List Int)):Prop where
 len:l.length≤257
 wid:∀c∈l,c.length≤64
theorem KF {l:List (List Int)} (h:∀c∈l,c.length≤64) (k:Nat):(l.getD k []).length≤64:=by
 rw[List.getD_eq_getElem?_getD]
 cases hh:l[k]? with
 | none=>simp
 | some x=>exact h x (List.mem_of_getElem? hh)
theorem Xt {l:List (List Int)} (h:∀c∈l,c.length≤64) (i k:Nat):∀c∈F3 l i k,c.length≤64:=by
 unfold F3
 split
 ·intro c hc
  rcases List.mem_append.1 hc with hc|hc
  ·exact h c hc
  ·have:c=FE (l.getD i []) (l.getD k []):=by simpa using hc
   rw[this]
   exact Nat.le_trans (Xs _ _) (KF h i)
 ·exact h
theorem pN (l:List (List Int)) (i k:Nat):l.length≤(F3 l i k).length∧(F3 l i k).length≤l.length+1:=by
 unfold F3
 split
 ·simp
 ·exact⟨Nat.le_refl _,Nat.le_succ _⟩
def QZ:Ae:={ ins:=[QF],pre:=fun(c,_)=>List.length c≤256∧∀x∈(c:List (List Int)),x.length≤64,out:=fun(c,_)=>[.p QF (Ay c)] }
theorem kW:Ag Tryz.prog 91 QZ:=by
 refine AR Tryz.func91 (by kernel_rfl) rfl Tryz.ntmps91 (by decide) (by kernel_rfl) (AF [(100,Xj),(133,w4)]) (AD Ze (AD A01 AH)) ?_
 rintro w0 O0 ⟨c,u⟩ hc-⟨hcl,hcw⟩
 have hcl:c.length≤256:=hcl
 simp only[QZ,AN]
 repeat'(first|exact trivial|refine eS rfl ?_|refine AB ?_|refine rX [0,2,3,4,5,6,18,28,48] hc ?_ ?_|refine rC ?_ ?_<;>intro AA<;>try(cases AA;done))
 ·simp only[AO];dsimp only[Ty.den]at *;omega
 ·refine AK (ι:={x:Nat×List (List Int)//x.1≤256∧y5 x.2∧Hq (257-x.1) x.1 x.2=Ay c}) (fun x=>⟨[(3,.sr 7 A7 0 x.1.2.length),(4,.p (.int .i64) (x.1.1:Int))],[(7,.arr 107 A7 x.1.2)]⟩) (fun x=>257-x.1.1) ⟨(0,c),by simp,⟨by simp only;omega,hcw⟩,rfl⟩ (AC [(7,.nm 7)] rfl rfl ?_ ?_) (fun x=>?_)
  ·first|exact eN|refine eM ?_
  ·first|exact eN|refine eM ?_
  ·obtain⟨⟨i,l⟩,hi,⟨hll,hlw⟩,hg⟩:=x
   simp only at hi hll hlw hg
   simp only
   repeat'(first|exact trivial|refine eS rfl ?_|refine AB ?_|refine rX [0,2,3,4,5,6,18,28,48] hc ?_ ?_|refine rC ?_ ?_<;>intro AA<;>try(cases AA;done))
   ·have hi2:i<l.length:=by omega
    have hl2:l.length≤256:=by omega
    have hg2:Hq (256-i) (i+1) (F4 i i 0 l)=Ay c:=by
     have e:257-i=(256-i)+1:=by omega
     rw[←hg,e]
     show _=if i<l.length∧l.length≤256 then Hq (256-i) (i+1) (F4 i i 0 l) else l
     rw[if_pos ⟨hi2,hl2⟩]
    refine AK (ι:={y:Nat×List (List Int)//y.1≤i∧y5 y.2∧l.length≤y.2.length∧F4 i (i-y.1) y.1 y.2=F4 i i 0 l}) (fun y=>⟨[(3,.sr 7 A7 0 y.1.2.length),(4,.p (.int .i64) (i:Int)),(5,.p (.int .i64) (y.1.1:Int))],[(7,.arr 107 A7 y.1.2)]⟩) (fun y=>i-y.1.1) ⟨(0,l),by simp,⟨hll,hlw⟩,Nat.le_refl _,rfl⟩ (AC [(7,.nm 7)] rfl rfl ?_ ?_) (fun y=>?_)
    ·first|exact eN|refine eM ?_
    ·first|exact eN|refine eM ?_
    ·obtain⟨⟨k,m⟩,hk,⟨hml,hmw⟩,hlm,hf⟩:=y
     simp only at hk hml hmw hlm hf
     simp only
     repeat'(first|exact trivial|refine eS rfl ?_|refine AB ?_|refine rX [0,2,3,4,5,6,18,28,48] hc ?_ ?_|refine rC ?_ ?_<;>intro AA<;>try(cases AA;done))
     ·exact⟨by exact eV,by exact eV,Nat.le_trans (KF hmw i) (by decide)⟩
     ·simp only[AO];omega
     ·omega
     ·have e:F3 m i k=m++[FE (m.getD i []) (m.getD k [])]:=by
       unfold F3
       rw[if_pos]
       rw[Bool.and_eq_true,decide_eq_true_eq,Bool.not_eq_true']
       exact AA
      have hw:=Xt hmw i k
      have h2:=pN m i k
      refine⟨⟨(k+1,F3 m i k),by simp only;omega,⟨by simp only;omega,hw⟩,by simp only;omega,?_⟩,by simp only;omega,AC [(7,.nm 7)] rfl rfl ?_ ?_⟩
      ·simp only
       rw[←hf,show i-k=(i-(k+1))+1 by omega]
       show _=if m.length≤256 then F4 i (i-(k+1)) (k+1) (F3 m i k) else m
       rw[if_pos (by omega)]
      ·simp only[e]
       first|exact eN|refine eM ?_
      ·simp only[e]
       first|exact eN|refine eM ?_
     ·omega
     ·have e:F3 m i k=m:=by
       unfold F3
       rw[if_neg]
       rw[Bool.and_eq_true,decide_eq_true_eq,Bool.not_eq_true']
       intro h
       rw[AA h.1]at h
       exact absurd h.2 (by simp)
      refine⟨⟨(k+1,m),by simp only;omega,⟨hml,hmw⟩,hlm,?_⟩,by simp only;omega,AC [(7,.nm 7)] rfl rfl ?_ ?_⟩
      ·simp only
       rw[←hf,show i-k=(i-(k+1))+1 by omega]
       show _=if m.length≤256 then F4 i (i-(k+1)) (k+1) (F3 m i k) else m
       rw[if_pos (by omega),e]
      ·first|exact eN|refine eM ?_
      ·first|exact eN|refine eM ?_
     ·omega
     ·have hm2:m=F4 i i 0 l:=by
       rw[←hf]
       cases hm:i-k with
       | zero=>rfl
       | succ j =>
        show _=if m.length≤256 then _ else m
        rw[if_neg (by omega)]
      rw[←hm2]at hg2
      refine⟨⟨(i+1,m),by simp only;omega,⟨hml,hmw⟩,?_⟩,by simp only;omega,AC [(7,.nm 7)] rfl rfl ?_ ?_⟩
      ·simp only
       rw[show 257-(i+1)=256-i by omega]
       exact hg2
      ·first|exact eN|refine eM ?_
      ·first|exact eN|refine eM ?_
   ·have hgl:l=Ay c:=by
     rw[←hg]
     cases hm:257-i with
     | zero=>rfl
     | succ m =>
      show _=if i<l.length∧l.length≤256 then _ else l
      rw[if_neg (by omega)]
    rw[←hgl]
    refine GD [7] ?_
    exact AG hc [.tmp 2] rfl (.inl rfl) (by simp) (by first|exact eR|refine Al ?_)
theorem cs0 {α:Type} (x y:α):(if ({ data:=#[] }:ByteArray).size≤AO then x else y)=x:=if_pos (by show 0≤AO;decide)
theorem cs1 {α:Type} (a:UInt8) (x y:α):(if ({ data:=#[a] }:ByteArray).size≤AO then x else y)=x:=if_pos (by show 1≤AO;decide)
theorem cs2 {α:Type} (a b:UInt8) (x y:α):(if ({ data:=#[a,b] }:ByteArray).size≤AO then x else y)=x:=if_pos (by show 2≤AO;decide)
theorem cs3 {α:Type} (a b c:UInt8) (x y:α):(if ({ data:=#[a,b,c] }:ByteArray).size≤AO then x else y)=x:=if_pos (by show 3≤AO;decide)
theorem cs4 {α:Type} (a b c d:UInt8) (x y:α):(if ({ data:=#[a,b,c,d] }:ByteArray).size≤AO then x else y)=x:=if_pos (by show 4≤AO;decide)
theorem cs5 {α:Type} (a b c d e:UInt8) (x y:α):(if ({ data:=#[a,b,c,d,e] }:ByteArray).size≤AO then x else y)=x:=if_pos (by show 5≤AO;decide)
theorem cs6 {α:Type} (a b c d e f:UInt8) (x y:α):(if ({ data:=#[a,b,c,d,e,f] }:ByteArray).size≤AO then x else y)=x:=if_pos (by show 6≤AO;decide)
theorem cs7 {α:Type} (a b c d e f g:UInt8) (x y:α):(if ({ data:=#[a,b,c,d,e,f,g] }:ByteArray).size≤AO then x else y)=x:=if_pos (by show 7≤AO;decide)
theorem cs8 {α:Type} (a b c d e f g h:UInt8) (x y:α):(if ({ data:=#[a,b,c,d,e,f,g,h] }:ByteArray).size≤AO then x else y)=x:=if_pos (by show 8≤AO;decide)
end
/- Plain: the bits of the codes. -/
section
def BK (b:List Int) (i:Nat):Bool:=(b.getD (i / 64) 0).toNat.testBit (i % 64)
def pO (x:Int):Prop:=0≤x∧x<18446744073709551616
theorem Er {x:Int} (h:pO x):(BitVec.ofInt 64 x).toNat=x.toNat:=by
 rw[BitVec.toNat_ofInt]
 have h1:=h.1
 have h2:=h.2
 rw[Int.emod_eq_of_lt h1 (by simpa using h2)]
theorem NK {n:Nat} (h:n<18446744073709551616):IntKind.u64.wrap (n:Int)=n:=Io (by rw[HK];omega)
theorem w6 {x y:Int} (hx:pO x) (hy:pO y):Bm .or .u64 x y=((x.toNat ||| y.toNat:Nat):Int):=by
 have h1:(BitVec.ofInt IntKind.u64.bits x ||| BitVec.ofInt IntKind.u64.bits y).toNat=x.toNat ||| y.toNat:=by
  rw[BitVec.toNat_or]
  show (BitVec.ofInt 64 x).toNat ||| (BitVec.ofInt 64 y).toNat=_
  rw[Er hx,Er hy]
 unfold Bm
 simp only
 rw[h1]
 have e:(18446744073709551616:Nat)=2 ^ 64:=by decide
 refine NK ?_
 rw[e]
 refine Nat.or_lt_two_pow ?_ ?_
 ·have:=hx.2;have:=hx.1;omega
 ·have:=hy.2;have:=hy.1;omega
theorem Gk {x y:Int} (hx:pO x) (hy:pO y):Bm .and .u64 x y=((x.toNat &&& y.toNat:Nat):Int):=by
 have h1:(BitVec.ofInt IntKind.u64.bits x &&& BitVec.ofInt IntKind.u64.bits y).toNat=x.toNat &&& y.toNat:=by
  rw[BitVec.toNat_and]
  show (BitVec.ofInt 64 x).toNat &&& (BitVec.ofInt 64 y).toNat=_
  rw[Er hx,Er hy]
 unfold Bm
 simp only
 rw[h1]
 refine NK (Nat.lt_of_le_of_lt Nat.and_le_left ?_)
 have:=hx.2;have:=hx.1;omega
theorem OZ {x y:Int}:Bm .andNot .u64 x y=((BitVec.ofInt 64 x &&& ~~~BitVec.ofInt 64 y).toNat:Int):=by
 show IntKind.u64.wrap ((BitVec.ofInt 64 x &&& ~~~BitVec.ofInt 64 y).toNat:Int)=_
 exact NK (BitVec.isLt _)
theorem Pf {x y:Int} (hx:pO x) (hy:pO y) (h:Bm .andNot .u64 x y=0) {r:Nat} (hr:r<64) (hb:x.toNat.testBit r=true):y.toNat.testBit r=true:=by
 rw[OZ]at h
 have h1:(BitVec.ofInt 64 x &&& ~~~BitVec.ofInt 64 y).toNat=0:=by omega
 have h2:(BitVec.ofInt 64 x &&& ~~~BitVec.ofInt 64 y).toNat.testBit r=false:=by rw[h1];exact Nat.zero_testBit r
 rw[BitVec.testBit_toNat,BitVec.getLsbD_and,BitVec.getLsbD_not,←BitVec.testBit_toNat,←BitVec.testBit_toNat,Er hx,Er hy,hb]at h2
 simpa[hr] using h2
theorem Xu {x:Int}:Bm .andNot .u64 x x=0:=by
 rw[OZ]
 simp
theorem MC {b:List Int}:∀ {n:Nat},∀k,CN b n≤k→k<n→b.getD k 0=0
 | 0,k,_,h=>by omega
 | n+1,k,h1,h2=>by
  unfold CN at h1
  split at h1
  ·rename_i hz
   by_cases hk:k=n
   ·rw[hk];exact hz
   ·exact MC k h1 (by omega)
  ·omega
theorem NL (b:List Int) (k:Nat):(BB b).getD k 0=b.getD k 0:=by
 unfold BB
 by_cases h:k<CN b b.length
 ·simp[List.getD_eq_getElem?_getD,List.getElem?_take,h]
 ·have h1:(List.take (CN b b.length) b).getD k 0=0:=by
   rw[List.getD_eq_getElem?_getD,List.getElem?_take,if_neg h];rfl
  rw[h1]
  by_cases h2:k<b.length
  ·exact(MC k (by omega) h2).symm
  ·rw[List.getD_eq_getElem?_getD,List.getElem?_eq_none (by omega)];rfl
theorem MD (b:List Int) (i:Nat):BK (BB b) i=BK b i:=by unfold BK;rw[NL]
def HW (b:List Int):Prop:=∀x∈b,pO x
theorem A4 {b:List Int} (h:HW b) (k:Nat):pO (b.getD k 0):=by
 rw[List.getD_eq_getElem?_getD]
 cases hh:b[k]? with
 | none=>exact⟨by simp,by simp⟩
 | some x=>exact h x (List.mem_of_getElem? hh)
theorem ME {b:List Int} (h:HW b):HW (BB b):=fun x hx=>h x (List.mem_of_mem_take hx)
theorem QQQ (b:List Int) (k:Nat):FG b (k:Int)=b.getD k 0:=by
 unfold FG
 split
 ·simp
 ·rename_i h
  rw[List.getD_eq_getElem?_getD,List.getElem?_eq_none (by omega)];rfl
theorem K8 (op:BinOp) (a b:List Int) {n k:Nat} (h:k<n):(QQX op a b n).getD k 0=Bm op .u64 (a.getD k 0) (b.getD k 0):=by
 unfold QQX
 rw[List.getD_eq_getElem?_getD,List.getElem?_map,List.getElem?_range h]
 show Bm op .u64 (a.getD k 0) (FG b (k:Int))=_
 rw[QQQ]
theorem Vs {a b:List Int} (h:Eb a b=true) {k:Nat} (hk:k<a.length):Bm .andNot .u64 (a.getD k 0) (b.getD k 0)=0:=by
 unfold Eb OT BB at h
 have h1:(List.take (CN (QQX .andNot a b a.length) (QQX .andNot a b a.length).length) (QQX .andNot a b a.length)).length=0:=by
  have:=beq_iff_eq.1 h
  omega
 rw[List.length_take,Dx]at h1
 have h2:=Rm (QQX .andNot a b a.length) a.length
 have h3:=MC (b:=QQX .andNot a b a.length) (n:=a.length) k (by omega) hk
 rw[K8 _ _ _ hk]at h3
 exact h3
theorem KG {a b:List Int} (ha:HW a) (hb:HW b) (h:Eb a b=true) {i:Nat} (hi:BK a i=true):BK b i=true:=by
 by_cases hk:i / 64<a.length
 ·exact Pf (A4 ha _) (A4 hb _) (Vs h hk) (Nat.mod_lt _ (by decide)) hi
 ·exfalso
  unfold BK at hi
  rw[List.getD_eq_getElem?_getD,List.getElem?_eq_none (by omega)]at hi
  simp at hi
theorem Oa {b:List Int}:∀ {n:Nat},(∀k,k<n→b.getD k 0=0)→CN b n=0
 | 0,_=>rfl
 | n+1,h=>by
  unfold CN
  rw[if_pos (h n (by omega))]
  exact Oa fun k hk=>h k (by omega)
theorem Xv (a:List Int):Eb a a=true:=by
 unfold Eb OT BB
 have h1:CN (QQX .andNot a a a.length) (QQX .andNot a a a.length).length=0:=by
  rw[Dx]
  exact Oa fun k hk=>by rw[K8 _ _ _ hk];exact Xu
 rw[h1]
 rfl
theorem Xw (a:List Int):FA a a=true:=by unfold FA;rw[Xv];rfl
theorem w7 {b:List Int} (hb:HW b) (hl:b.length=64) {x:Int} (h0:0≤x) (h1:x≤4095) (i:Nat):BK (kT b x) i=(BK b i||decide (x=(i:Int))):=by
 have e1:Int.tdiv x 64=x / 64:=Int.tdiv_eq_ediv_of_nonneg h0
 have e2:Int.tmod x 64=x % 64:=Int.tmod_eq_emod_of_nonneg h0
 obtain⟨n,rfl⟩:∃n:Nat,x=(n:Int):=⟨x.toNat,by omega⟩
 have hs:P0 .u64 1 ((n:Int) % 64)=((2 ^ (n % 64):Nat):Int):=by
  unfold P0
  have e3:min ((n:Int) % 64).toNat IntKind.u64.bits=n % 64:=by
   have:((n:Int) % 64).toNat=n % 64:=by omega
   rw[this]
   have:IntKind.u64.bits=64:=rfl
   omega
  rw[e3,Int.one_mul]
  have:(2:Int) ^ (n % 64)=((2 ^ (n % 64):Nat):Int):=by simp
  rw[this]
  refine NK ?_
  have h3:(2:Nat) ^ (n % 64)<2 ^ 64:=Nat.pow_lt_pow_right (by decide) (Nat.mod_lt _ (by decide))
  exact h3
 have hu:pO (P0 .u64 1 ((n:Int) % 64)):=by
  rw[hs]
  have h3:(2:Nat) ^ (n % 64)<2 ^ 64:=Nat.pow_lt_pow_right (by decide) (Nat.mod_lt _ (by decide))
  have h4:(2:Nat) ^ 64=18446744073709551616:=by decide
  refine⟨Int.natCast_nonneg _,?_⟩
  rw[h4]at h3
  exact Int.ofNat_lt.2 h3
 have hn:((n:Int) / 64).toNat=n / 64:=by omega
 unfold kT BK
 rw[e1,e2,hn]
 by_cases hd:i / 64=n / 64
 ·have hlt:n / 64<b.length:=by omega
  rw[hd]
  have:(b.set (n / 64) (Bm .or .u64 (b.getD (n / 64) 0) (P0 .u64 1 ((n:Int) % 64)))).getD (n / 64) 0=Bm .or .u64 (b.getD (n / 64) 0) (P0 .u64 1 ((n:Int) % 64)):=by
   simp[List.getD_eq_getElem?_getD,hlt]
  rw[this,w6 (A4 hb _) hu,hs]
  simp only[Int.toNat_natCast,Nat.testBit_or,Nat.testBit_two_pow]
  congr 1
  rw[decide_eq_decide]
  omega
 ·have:(b.set (n / 64) (Bm .or .u64 (b.getD (n / 64) 0) (P0 .u64 1 ((n:Int) % 64)))).getD (i / 64) 0=b.getD (i / 64) 0:=by
   simp[List.getD_eq_getElem?_getD,List.getElem?_set,Ne.symm hd]
  rw[this]
  have:decide ((n:Int)=(i:Int))=false:=by
   rw[decide_eq_false_iff_not]
   intro h
   exact hd (by omega)
  rw[this,Bool.or_false]
theorem w8 {b:List Int} (hb:HW b) (x:Int):HW (kT b x):=by
 intro y hy
 unfold kT at hy
 rcases List.mem_or_eq_of_mem_set hy with h|h
 ·exact hb y h
 ·rw[h]
  have:=Kn .u64 ((BitVec.ofInt IntKind.u64.bits (b.getD (x.tdiv 64).toNat 0) ||| BitVec.ofInt IntKind.u64.bits (P0 .u64 1 (x.tmod 64))).toNat:Int)
  rw[HK]at this
  exact⟨this.1,by have:=this.2;show _<_;exact Int.lt_of_le_of_lt this (by decide)⟩
theorem w9 {l:List Int} (h:l.all w3=true) (i:Nat):BK (mP l) i=decide ((i:Int)∈l)∧HW (mP l):=by
 have key:∀(l b:List Int),l.all w3=true→HW b→b.length=64→BK (l.foldl kT b) i=(BK b i||decide ((i:Int)∈l))∧HW (l.foldl kT b):=by
  intro l
  induction l with
  | nil=>intro b _ hb _;simp[hb]
  | cons x l ih =>
   intro b ho hb hl
   rw[List.all_cons,Bool.and_eq_true]at ho
   have hx:=ho.1
   unfold w3 at hx
   rw[Bool.not_eq_true',Bool.or_eq_false_iff,decide_eq_false_iff_not,decide_eq_false_iff_not]at hx
   obtain⟨g1,g2⟩:=ih (kT b x) ho.2 (w8 hb x) (by simp[kT,hl])
   rw[List.foldl_cons]
   refine⟨?_,g2⟩
   rw[g1,w7 hb hl (by omega) (by omega),Bool.or_assoc]
   congr 1
   rw[←Bool.decide_or,decide_eq_decide,List.mem_cons,eq_comm]
 have h2:HW (List.replicate 64 (0:Int)):=by
  intro y hy
  rw[(List.mem_replicate.1 hy).2]
  exact⟨by decide,by decide⟩
 have h1:=key l (List.replicate 64 0) h h2 (by simp)
 refine⟨?_,h1.2⟩
 unfold mP
 rw[h1.1]
 have:BK (List.replicate 64 (0:Int)) i=false:=by
  unfold BK
  have:(List.replicate 64 (0:Int)).getD (i / 64) 0=0:=by
   rw[List.getD_eq_getElem?_getD,List.getElem?_replicate]
   split<;>rfl
  rw[this]
  simp
 rw[this,Bool.false_or]
theorem pP {low all:List ByteArray} {n i:Nat}:((i:Int)∈MB low all n)↔i<n∧AY low (all.getD i ByteArray.empty)=true:=by
 unfold MB
 rw[List.mem_map]
 constructor
 ·rintro⟨j,hj,e⟩
  have:j=i:=by omega
  subst this
  rw[List.mem_filter,List.mem_range]at hj
  exact hj
 ·rintro⟨h1,h2⟩
  exact⟨i,by rw[List.mem_filter,List.mem_range];exact⟨h1,h2⟩,rfl⟩
theorem xA {low all:List ByteArray} {n:Nat} (hn:n≤4096):(MB low all n).all w3=true:=by
 rw[List.all_eq_true]
 intro x hx
 unfold MB at hx
 obtain⟨j,hj,rfl⟩:=List.mem_map.1 hx
 rw[List.mem_filter,List.mem_range]at hj
 unfold w3
 rw[Bool.not_eq_true',Bool.or_eq_false_iff,decide_eq_false_iff_not,decide_eq_false_iff_not]
 exact⟨by omega,by omega⟩
theorem Dy {d:List AJ} {all:List ByteArray} (hl:all.length≤4096) (s:ByteArray) (i:Nat):(BK (F8 d all s) i=true↔i<all.length∧AY (DM d s) (all.getD i ByteArray.empty)=true)∧HW (F8 d all s)∧(F8 d all s).length≤64:=by
 have h1:=xA (low:=DM d s) (all:=all) hl
 have h2:=w9 h1 i
 have h3:F8 d all s=BB (mP (MB (DM d s) all all.length)):=by
  unfold F8 sY
  rw[if_pos h1]
 refine⟨?_,?_,?_⟩
 ·rw[h3,MD,h2.1,decide_eq_true_eq,pP]
 ·rw[h3];exact ME h2.2
 ·rw[h3]
  unfold BB
  have:=NH (MB (DM d s) all all.length)
  rw[List.length_take]
  omega
end
/- Plain: what is placed stands in order; what is below comes behind. -/
section
theorem Pg (d:List AJ) {s t:ByteArray} (h:Ak s t=true):A8 d s=A8 d t:=by
 have key:∀(l:List AJ) (k:Nat),CO s k l=CO t k l:=by
  intro l
  induction l with
  | nil=>intro k;rfl
  | cons x l ih =>
   intro k
   simp only[CO]
   have:Ak x.1 s=Ak x.1 t:=by
    cases h1:Ak x.1 s with
    | true=>exact(B2 h1 h).symm
    | false =>
     cases h2:Ak x.1 t with
     | false=>rfl
     | true=>rw[B2 h2 (Eh h)]at h1;cases h1
   rw[this,ih]
 exact key d 0
theorem Ct {α:Type} {l:List α} {d:α} {k:Nat} (h:k<l.length):l.getD k d∈l:=by
 rw[List.getD_eq_getElem?_getD,List.getElem?_eq_getElem h]
 exact List.getElem_mem h
theorem FC {α:Type} {l:List α} (d:α) {x:α} (h:x∈l):∃k,k<l.length∧l.getD k d=x:=by
 obtain⟨k,hk,e⟩:=List.mem_iff_getElem.1 h
 exact⟨k,hk,by rw[List.getD_eq_getElem?_getD,List.getElem?_eq_getElem hk];exact e⟩
theorem KH {d:List AJ}:∀ {r:List AJ} {k:Nat},L8 d k r=0→∀j,j<r.length→¬A8 d (r.getD j d0).1<((k+j:Nat):Int)∧EL (r.getD j d0).1 false=true
 | [],_,_,j,hj=>by simp at hj
 | x :: r,k,h,j,hj=>by
  simp only[L8]at h
  split at h
  ·cases h
  ·rename_i h1
   split at h
   ·cases h
   ·rename_i h2
    cases j with
    | zero=>exact⟨h2,by simpa using h1⟩
    | succ j =>
     have:=KH h j (by simpa using hj)
     have e:k+(j+1)=k+1+j:=by omega
     rw[e]
     exact this
theorem NM (s:ByteArray):∀(l:List AJ) (k j:Nat),j<l.length→Ak (l.getD j d0).1 s=true→CO s k l≤((k+j:Nat):Int)
 | [],_,j,h,_=>by simp at h
 | x :: l,k,j,h,e=>by
  simp only[CO]
  split
  ·omega
  ·rename_i h1
   cases j with
   | zero=>exact absurd e h1
   | succ j =>
    have:=NM s l (k+1) j (by simpa using h) e
    omega
theorem NN {d:List AJ} (h:DK d=0) {j:Nat} (hj:j<d.length):A8 d (d.getD j d0).1=(j:Int):=by
 have h1:=(KH h j hj).1
 have h2:=NM (d.getD j d0).1 d 0 j hj (Eg _)
 rw[Nat.zero_add]at h1 h2
 have h2:A8 d (d.getD j d0).1≤(j:Int):=h2
 omega
theorem Xx {d:List AJ} (h:DK d=0) {x y:AJ} (hx:x∈d) (hy:y∈d) (e:Ak x.1 y.1=true):x=y:=by
 obtain⟨i,hi,rfl⟩:=FC d0 hx
 obtain⟨j,hj,rfl⟩:=FC d0 hy
 have h1:=NN h hi
 have h2:=NN h hj
 rw[Pg d e,h2]at h1
 have:i=j:=by omega
 rw[this]
theorem Zj (d:List AJ) (out:List ByteArray) (h:(Gg d out).1=true):∃x∈d,x.1=(Gg d out).2∧AY out x.1=false∧Gf x out=true:=by
 have key:∀(l:List AJ) (s:Bool×ByteArray),(∀x∈l,x∈d)→(s.1=true→∃x∈d,x.1=s.2∧AY out x.1=false∧Gf x out=true)→(l.foldl (HT out) s).1=true →
   ∃x∈d,x.1=(l.foldl (HT out) s).2∧AY out x.1=false∧Gf x out=true:=by
  intro l
  induction l with
  | nil=>intro s _ hs h;exact hs h
  | cons y l ih =>
   intro s hl hs h
   rw[List.foldl_cons]at h ⊢
   refine ih _ (fun x hx=>hl x (by simp[hx])) (fun hp=>?_) h
   unfold HT at hp ⊢
   split
   ·rename_i hc
    rw[if_pos hc]at hp
    exact hs hp
   ·rename_i hc
    simp only
    have hc:AY out y.1=false∧Gf y out=true:=by simpa using hc
    split
    ·exact⟨y,hl y (by simp),rfl,hc⟩
    ·rename_i hc2
     have:s.1=true:=by
      cases hh:s.1 with
      | true=>rfl
      | false=>rw[hh]at hc2;simp at hc2
     exact hs this
 exact key d _ (fun _ h=>h) (fun h=>by cases h) h
def PL (d:List AJ) (o:List ByteArray):Prop:=∀j,j<o.length→∃x∈d,x.1=o.getD j ByteArray.empty∧AY (o.take j) x.1=false∧Gf x (o.take j)=true
theorem PL.snoc {d:List AJ} {o:List ByteArray} (h:PL d o) {x:AJ} (hx:x∈d) (h1:AY o x.1=false) (h2:Gf x o=true):PL d (o++[x.1]):=by
 intro j hj
 by_cases hjo:j<o.length
 ·obtain⟨y,hy,e1,e2,e3⟩:=h j hjo
  refine⟨y,hy,?_,?_,?_⟩
  ·rw[e1];simp[List.getD_eq_getElem?_getD,List.getElem?_append,hjo]
  ·rw[List.take_append_of_le_length (by omega)];exact e2
  ·rw[List.take_append_of_le_length (by omega)];exact e3
 ·have hj2:j=o.length:=by simp at hj;omega
  subst hj2
  refine⟨x,hx,?_,?_,?_⟩
  ·simp[List.getD_eq_getElem?_getD]
  ·rw[List.take_append_of_le_length (by omega),List.take_length];exact h1
  ·rw[List.take_append_of_le_length (by omega),List.take_length];exact h2
theorem R0 {d:List AJ}:∀ {n:Nat} {o:List ByteArray},PL d o→PL d (HV d n o)
 | 0,_,h=>h
 | n+1,o,h=>by
  unfold HV
  split
  ·rename_i hp
   obtain⟨x,hx,e,h1,h2⟩:=Zj d o hp
   rw[←e]
   exact R0 (h.snoc hx h1 h2)
  ·exact h
theorem UO (d:List AJ):PL d (BW d):=R0 fun j hj=>by simp at hj
theorem PL.ok {d:List AJ} {o:List ByteArray} (h:PL d o):Wa d o:=by
 refine⟨fun s hs=>?_,?_⟩
 ·obtain⟨j,hj,rfl⟩:=FC ByteArray.empty hs
  obtain⟨x,hx,e,-⟩:=h j hj
  rw[←e]
  exact Ei hx
 ·rw[List.pairwise_iff_getElem]
  intro i j hi hj hij
  obtain⟨x,hx,e,h1,-⟩:=h j hj
  have h2:=NG h1 o[i] (by rw[List.mem_take_iff_getElem];exact⟨i,by omega,rfl⟩)
  rw[e]at h2
  rw[List.getD_eq_getElem?_getD,List.getElem?_eq_getElem hj]at h2
  exact h2
theorem Zk {n:Nat} {l:List Nat} (h:l.Nodup) (hl:∀j∈l,j<n) (hn:n≤l.length) {k:Nat} (hk:k<n):k∈l:=by
 refine Classical.byContradiction fun hc=>?_
 have:=EB n (k :: l) (List.nodup_cons.2 ⟨hc,h⟩) (fun j hj=>by
  rcases List.mem_cons.1 hj with rfl|hj
  ·exact hk
  ·exact hl j hj)
 simp at this
 omega
theorem Zl {d:List AJ} (hl:d.length≤(BW d).length) {x:AJ} (hx:x∈d):∃s∈BW d,Ak s x.1=true:=by
 have hA:=(UO d).ok
 have h1:=I2 d hA
 have h0:=Ei hx
 have hd:=C0 d x.1
 have h2:=Zk (n:=d.length) h1 (fun j hj=>by
  obtain⟨s,hs,rfl⟩:=List.mem_map.1 hj
  have h1:=hA.decl s hs
  rcases C0 d s with g|⟨_,g,_⟩<;>omega) (by simpa using hl) (k:=(A8 d x.1).toNat) (by omega)
 obtain⟨s,hs,e⟩:=List.mem_map.1 h2
 refine⟨s,hs,?_⟩
 rcases C0 d s with g|⟨_,_,g1⟩
 ·have:=hA.decl s hs;omega
 ·rcases hd with g|⟨_,_,g2⟩
  ·omega
  ·rw[e]at g1
   exact B2 (Eh g1) g2
def Gl (d:List AJ) (s:ByteArray):Nat:=(BW d).findIdx fun x=>Ak x s
theorem MF (d:List AJ) {s t:ByteArray} (h:Ak s t=true):Gl d s=Gl d t:=by
 unfold Gl
 congr 1
 funext x
 cases h1:Ak x s with
 | true=>exact(B2 h1 h).symm
 | false =>
  cases h2:Ak x t with
  | false=>rfl
  | true=>rw[B2 h2 (Eh h)]at h1;cases h1
theorem MG {d:List AJ} (hn:DK d=0) (hl:d.length≤(BW d).length) {x:AJ} (hx:x∈d) {s:ByteArray} (hs:AY x.2.1 s=true):Gl d s<Gl d x.1:=by
 obtain⟨t,ht,e⟩:=Zl hl hx
 have hlt:Gl d x.1<(BW d).length:=List.findIdx_lt_length_of_exists ⟨t,ht,e⟩
 have heq:Ak ((BW d)[Gl d x.1]) x.1=true:=List.findIdx_getElem (w:=hlt)
 obtain⟨y,hy,e1,-,h3⟩:=UO d (Gl d x.1) hlt
 rw[List.getD_eq_getElem?_getD,List.getElem?_eq_getElem hlt]at e1
 have e1:y.1=(BW d)[Gl d x.1]:=e1
 rw[←e1]at heq
 have hyx:=Xx hn hy hx heq
 subst hyx
 obtain⟨u,hu,eu⟩:=List.any_eq_true.1 hs
 have h4:AY ((BW d).take (Gl d y.1)) u=true:=List.all_eq_true.1 h3 u hu
 obtain⟨v,hv,ev⟩:=List.any_eq_true.1 h4
 rw[List.mem_take_iff_getElem]at hv
 obtain⟨i,hi,rfl⟩:=hv
 have hi2:i<Gl d y.1:=by omega
 refine Nat.lt_of_le_of_lt ?_ hi2
 refine Classical.byContradiction fun hc=>?_
 have h5:=List.not_of_lt_findIdx (p:=fun x=>Ak x s) (xs:=BW d) (i:=i) (by unfold Gl at hc;omega)
 have h6:Ak ((BW d)[i]) s=true:=B2 ev eu
 try simp only at h5
 rw[h6]at h5
 exact absurd h5 (by simp)
def TJ (d:List AJ) (s x:ByteArray):Prop:=Ak s x=true∨Gl d s<Gl d x
theorem kX {d:List AJ} (hn:DK d=0) (hl:d.length≤(BW d).length) {s c:ByteArray} (hc:TJ d s c) {o:List ByteArray} (ho:∀x∈o,TJ d s x) {x:AJ} (hx:x∈d):∀y∈Et c o x,TJ d s y:=by
 intro y hy
 unfold Et at hy
 split at hy
 ·rename_i h
  rw[Bool.and_eq_true]at h
  rcases List.mem_append.1 hy with hy|hy
  ·exact ho y hy
  ·have:y=x.1:=by simpa using hy
   subst this
   have h1:=MG hn hl hx h.1
   right
   rcases hc with hc|hc
   ·rw[MF d hc];exact h1
   ·omega
 ·exact ho y hy
theorem R1 {d:List AJ} (hn:DK d=0) (hl:d.length≤(BW d).length) {s c:ByteArray} (hc:TJ d s c):∀ {l:List AJ} {o:List ByteArray},(∀x∈l,x∈d)→(∀x∈o,TJ d s x)→∀y∈l.foldl (Et c) o,TJ d s y
 | [],_,_,ho=>ho
 | x :: l,o,hx,ho=>by
  rw[List.foldl_cons]
  exact R1 hn hl hc (fun y hy=>hx y (by simp[hy])) (kX hn hl hc ho (hx x (by simp)))
theorem Ph {d:List AJ} (hn:DK d=0) (hl:d.length≤(BW d).length) {s:ByteArray}:∀ {n i:Nat} {o:List ByteArray},(∀x∈o,TJ d s x)→∀y∈DL d n i o,TJ d s y
 | 0,_,_,ho=>ho
 | n+1,i,o,ho=>by
  unfold DL
  split
  ·rename_i hi
   exact Ph hn hl (R1 hn hl (ho _ (Ct hi)) (fun _ h=>h) ho)
  ·exact ho
theorem pQ {c:ByteArray} {o:List ByteArray} {x:AJ} {y:ByteArray} (h:y∈o):y∈Et c o x:=by
 unfold Et
 split
 ·exact List.mem_append.2 (.inl h)
 ·exact h
theorem K9 {c:ByteArray} {y:ByteArray}:∀ {l:List AJ} {o:List ByteArray},y∈o→y∈l.foldl (Et c) o
 | [],_,h=>h
 | x :: l,o,h=>by rw[List.foldl_cons];exact K9 (pQ h)
theorem MH {d:List AJ} {y:ByteArray}:∀ {n i:Nat} {o:List ByteArray},y∈o→y∈DL d n i o
 | 0,_,_,h=>h
 | n+1,i,o,h=>by
  unfold DL
  split
  ·exact MH (K9 h)
  ·exact h
theorem NP {l:List ByteArray} {s x:ByteArray} (h:x∈Dh l s):x∈l∨x=s:=by
  unfold Dh at h
  split at h
  · exact .inl h
  · simp only[List.mem_append,List.mem_cons,List.mem_singleton]at h
    rcases h with h|h
    · first
        | exact .inl (List.mem_of_mem_take h)
        | (rcases h with h | h
           · exact .inl (List.mem_of_mem_take h)
           · exact .inr (by simpa using h))
    · first
        | exact .inl (List.mem_of_mem_drop h)
        | (rcases h with h | h
           · exact .inr h
           · exact .inl (List.mem_of_mem_drop h))
theorem UP {l:List ByteArray} {s x:ByteArray} (h:x∈l):x∈Dh l s:=by
 unfold Dh
 split
 ·exact h
 ·have h2:x∈l.take (mO l s)∨x∈l.drop (mO l s):=List.mem_append.1 (by rw[List.take_append_drop];exact h)
  simp only[List.mem_append,List.mem_cons,List.mem_singleton]
  rcases h2 with h2|h2<;>simp[h2]
theorem Xy {l:List ByteArray} {s:ByteArray}:AY (Dh l s) s=true:=by
  unfold Dh
  split
  · rename_i h
    first
      | exact Fl l ByteArray.empty _ h.1 h.2
      | (have h : mO l s < l.length ∧ Ak (l.getD (mO l s) ByteArray.empty) s = true := by simpa using h
         exact Fl l ByteArray.empty _ h.1 h.2)
  · unfold AY
    rw[List.any_eq_true]
    exact⟨s,by simp,Eg s⟩
theorem LA {l:List ByteArray} {s:ByteArray} (h:s∈l):AY l s=true:=List.any_eq_true.2 ⟨s,h,Eg s⟩
theorem LB {l m:List ByteArray} {s:ByteArray} (hs:∀x∈l,x∈m) (h:AY l s=true):AY m s=true:=by
 obtain⟨x,hx,e⟩:=List.any_eq_true.1 h
 exact List.any_eq_true.2 ⟨x,hs x hx,e⟩
theorem Xz:∀ {l o:List ByteArray} {x:ByteArray},x∈l.foldl Dh o→x∈o∨x∈l
 | [],_,_,h=>.inl h
 | y :: l,o,x,h=>by
  rw[List.foldl_cons]at h
  rcases Xz h with h|h
  ·rcases NP h with h|h
   ·exact .inl h
   ·exact .inr (by simp[h])
  ·exact .inr (by simp[h])
theorem UQ:∀ {l o:List ByteArray} {x:ByteArray},x∈o→x∈l.foldl Dh o
 | [],_,_,h=>h
 | y :: l,o,x,h=>by rw[List.foldl_cons];exact UQ (UP h)
theorem R2:∀ {l o:List ByteArray} {x:ByteArray},x∈l→AY (l.foldl Dh o) x=true
 | [],_,_,h=>by cases h
 | y :: l,o,x,h=>by
  rw[List.foldl_cons]
  rcases List.mem_cons.1 h with rfl|h
  ·exact LB (fun z hz=>UQ hz) (Xy (l:=o) (s:=x))
  ·exact R2 h
theorem MI {d:List AJ} {s:ByteArray} (h:0≤A8 d s):AY (DM d s) s=true:=by
 unfold DM
 rw[if_neg (by omega)]
 exact R2 (MH (by simp))
theorem R3 {d:List AJ} (hn:DK d=0) (hl:d.length≤(BW d).length) {s x:ByteArray} (h:AY (DM d s) x=true):TJ d s x:=by
 obtain⟨y,hy,e⟩:=List.any_eq_true.1 h
 have hb:TJ d s y:=by
  unfold DM at hy
  split at hy
  ·cases hy
  ·rcases Xz hy with hy|hy
   ·cases hy
   ·refine Ph hn hl (fun z hz=>?_) y hy
    have:z=s:=by simpa using hz
    rw[this]
    exact .inl (Eg s)
 rcases hb with hb|hb
 ·exact .inl (B2 hb e)
 ·rw[MF d e]at hb
  exact .inr hb
theorem FU {d:List AJ} {s:ByteArray} (h:s∈AU d):∃x∈d,x.1=s:=by
 have key:∀(l:List AJ) (o:List ByteArray),s∈l.foldl (fun o x=>Dh o x.1) o→s∈o∨∃x∈l,x.1=s:=by
  intro l
  induction l with
  | nil=>intro o h;exact .inl h
  | cons x l ih =>
   intro o h
   rw[List.foldl_cons]at h
   rcases ih _ h with h|⟨y,hy,e⟩
   ·rcases NP h with h|h
    ·exact .inl h
    ·exact .inr ⟨x,by simp,h.symm⟩
   ·exact .inr ⟨y,by simp[hy],e⟩
 rcases key d [] h with h|h
 ·cases h
 ·exact h
theorem R4 {d:List AJ} {x:AJ} (h:x∈d):AY (AU d) x.1=true:=by
 have keep:∀(l:List AJ) (o:List ByteArray),∀y∈o,y∈l.foldl (fun o x=>Dh o x.1) o:=by
  intro l
  induction l with
  | nil=>intro o y h;exact h
  | cons x l ih=>intro o y h;rw[List.foldl_cons];exact ih _ y (UP h)
 have key:∀(l:List AJ) (o:List ByteArray),x∈l→AY (l.foldl (fun o x=>Dh o x.1) o) x.1=true:=by
  intro l
  induction l with
  | nil=>intro o h;cases h
  | cons y l ih =>
   intro o h
   rw[List.foldl_cons]
   rcases List.mem_cons.1 h with rfl|h
   ·exact LB (keep l _) (Xy (l:=o) (s:=x.1))
   ·exact ih _ h
 exact key d [] h
theorem X0 {d:List AJ} (hn:DK d=0) (hl:d.length≤(BW d).length) (h2:d.length≤256) {i j:Nat} (hi:i<(AU d).length) (hj:j<(AU d).length)
  (h:FA (F8 d (AU d) ((AU d).getD i ByteArray.empty)) (F8 d (AU d) ((AU d).getD j ByteArray.empty))=true):Ak ((AU d).getD i ByteArray.empty) ((AU d).getD j ByteArray.empty)=true:=by
 have hnl:=Ef d d.length
 rw[List.take_length]at hnl
 have hal:(AU d).length≤4096:=by omega
 generalize hs:(AU d).getD i ByteArray.empty=s at *
 generalize ht:(AU d).getD j ByteArray.empty=t at *
 have hsd:0≤A8 d s:=by
  obtain⟨x,hx,e⟩:=FU (s:=s) (by rw[←hs];exact Ct hi)
  rw[←e];exact Ei hx
 have htd:0≤A8 d t:=by
  obtain⟨x,hx,e⟩:=FU (s:=t) (by rw[←ht];exact Ct hj)
  rw[←e];exact Ei hx
 obtain⟨c1,w1,-⟩:=Dy (d:=d) hal s i
 obtain⟨c2,w2,-⟩:=Dy (d:=d) hal t i
 obtain⟨c3,-,-⟩:=Dy (d:=d) hal s j
 obtain⟨c4,-,-⟩:=Dy (d:=d) hal t j
 unfold FA at h
 rw[Bool.and_eq_true]at h
 have b1:=R3 hn hl (c2.1 (KG w1 w2 h.1 (c1.2 ⟨hi,by rw[hs];exact MI hsd⟩))).2
 have b2:=R3 hn hl (c3.1 (KG w2 w1 h.2 (c4.2 ⟨hj,by rw[ht];exact MI htd⟩))).2
 rw[hs]at b1
 rw[ht]at b2
 rcases b1 with b1|b1
 ·exact Eh b1
 ·rcases b2 with b2|b2
  ·exact b2
  ·omega
end
/- Functions of grammarlabref04: name. -/
section
attribute [local go_sem] QW Zd Gj cs0 cs1
def y6 (d:List AJ) (all:List ByteArray) (codes:List (List Int)) (b:List Int):Nat→Nat→List ByteArray→ByteArray ⊕ List ByteArray
 | 0,_,l=>.inr l
 | n+1,i,l=>if FA (codes.getD i []) b=true then .inl (all.getD i ByteArray.empty) else y6 d all codes b n (i+1) (if Rn b (i:Int)=true then l++[all.getD i ByteArray.empty] else l)
def X2 (l:List ByteArray) (s:ByteArray) (i:Nat):ByteArray:=(if 0<(i:Int) then s++ByteArray.mk #[38] else s)++l.getD i ByteArray.empty
def pR (l:List ByteArray):ByteArray:=(List.range l.length).foldl (X2 l) ByteArray.empty
def Gm (d:List AJ) (all:List ByteArray) (codes:List (List Int)) (b:List Int):ByteArray :=
 match y6 d all codes b all.length 0 [] with
 | .inl s=>s
 | .inr l=>pR (Bt d l)
theorem Ld {d:List AJ} {x:ByteArray}:∀ {l o:List ByteArray},x∈l.foldl (JO d) o→x∈o∨x∈l
 | [],_,h=>.inl h
 | y :: l,o,h=>by
  rw[List.foldl_cons]at h
  rcases Ld h with h|h
  ·unfold JO at h
   split at h
   ·rcases NP h with h|h
    ·exact .inl h
    ·exact .inr (by simp[h])
   ·exact .inl h
  ·exact .inr (by simp[h])
theorem Vt {d:List AJ} {l:List ByteArray} {x:ByteArray} (h:x∈Bt d l):x∈l:=by
 unfold Bt QH at h
 obtain⟨i,hi,rfl⟩:=List.mem_map.1 h
 rw[List.mem_filter,List.mem_range]at hi
 rcases Ld (Ct (d:=ByteArray.empty) hi.1) with h|h
 ·cases h
 ·exact h
theorem Vu (d:List AJ) (l:List ByteArray):(Bt d l).length≤l.length:=Nat.le_trans (Xp _ _ _) (Ho d l)
theorem Zm {l:List ByteArray} (h:∀s∈l,s.size≤32) (k:Nat):(l.getD k ByteArray.empty).size≤32:=by
 rw[List.getD_eq_getElem?_getD]
 cases hh:l[k]? with
 | none=>simp
 | some x=>exact h x (List.mem_of_getElem? hh)
def R5 (l:List ByteArray) (n:Nat):ByteArray:=(List.range n).foldl (X2 l) ByteArray.empty
theorem R6 (l:List ByteArray) (n:Nat):R5 l (n+1)=X2 l (R5 l n) n:=by
 unfold R5
 rw[List.range_succ,List.foldl_append]
 rfl
theorem R7 {l:List ByteArray} (h:∀s∈l,s.size≤32):∀n,(R5 l n).size≤33*n
 | 0=>by simp[R5]
 | n+1=>by
  have h1:=R7 h n
  have h2:=Zm h n
  rw[R6]
  unfold X2
  split
  ·rw[ByteArray.size_append,ByteArray.size_append]
   have:(ByteArray.mk #[38]).size=1:=rfl
   omega
  ·rw[ByteArray.size_append]
   omega
def Qa:Ae:={ ins:=[EH,Bl,QF,A7],pre:=fun(d,all,codes,b,_)=>Rr d∧List.length d≤256∧List.length all≤256∧List.length codes=List.length all∧(∀s∈(all:List ByteArray),s.size≤32)∧(∀x∈(codes:List (List Int)),x.length≤64)∧List.length b≤64,out:=fun(d,all,codes,b,_)=>[.p T9 (Gm d all codes b)] }
theorem kY:Ag Tryz.prog 92 Qa:=by
 refine AR Tryz.func92 (by kernel_rfl) rfl Tryz.ntmps92 (by decide) (by kernel_rfl) (AF [(134,QW),(135,Zd),(136,Gj)]) (AD kL (AD pA (AD Rw AH))) ?_
 rintro w0 O0 ⟨d,all,codes,b,u⟩ hc-⟨hs,hd,hall,hcd,hsz,hcw,hb⟩
 have hall:all.length≤256:=hall
 have hcd:codes.length=all.length:=hcd
 simp only[Qa,AN]
 repeat'(first|exact trivial|refine eS rfl ?_|refine AB ?_|refine rX [0,1,2,3,8,9,10,11,12,16,24,31,45,49] hc ?_ ?_|refine rC ?_ ?_<;>intro AA<;>try(cases AA;done))
 refine AK (ι:={x:Nat×List ByteArray//x.1≤all.length∧x.2.length≤x.1∧(∀s∈x.2,s.size≤32)∧y6 d all codes b (all.length-x.1) x.1 x.2=y6 d all codes b all.length 0 []}) (fun x=>⟨[(0,.p EH d),(1,.p Bl all),(2,.p QF codes),(3,.p A7 b),(9,.sr 38 T9 0 x.1.2.length),(10,.p (.int .i64) (x.1.1:Int))],[(38,.arr 9 T9 x.1.2)]⟩) (fun x=>all.length-x.1.1) ⟨(0,[]),by simp,by simp,by simp,rfl⟩ (AC [(38,.nil)] rfl rfl ?_ ?_) (fun x=>?_)
 ·first|exact eN|refine eM ?_
 ·first|exact eN|refine eM ?_
 ·obtain⟨⟨i,l⟩,hi,hli,hls,hg⟩:=x
  simp only at hi hli hls hg
  have hstep:i<all.length→y6 d all codes b (all.length-i) i l=if FA (codes.getD i []) b=true then .inl (all.getD i ByteArray.empty) else y6 d all codes b (all.length-(i+1)) (i+1) (if Rn b (i:Int)=true then l++[all.getD i ByteArray.empty] else l):=by
   intro h
   rw[show all.length-i=(all.length-(i+1))+1 by omega]
   rfl
  simp only
  repeat'(first|exact trivial|refine eS rfl ?_|refine AB ?_|refine rX [0,1,2,3,8,9,10,11,12,16,24,31,45,49] hc ?_ ?_|refine rC ?_ ?_<;>intro AA<;>try(cases AA;done))
  ·exact⟨by rw[hcd];exact AA,Nat.le_trans (KF hcw i) (by decide),Nat.le_trans hb (by decide)⟩
  ·assumption
  ·have hi2:i<all.length:=by exact eV
   have hr:Gm d all codes b=all.getD i ByteArray.empty:=by
    unfold Gm
    rw[←hg,hstep hi2,if_pos AA]
   exact AG hc [.tmp 8] rfl (.inl rfl) (by simp) (by rw[hr];first|exact eR|refine Al ?_)
  ·have hi2:i<all.length:=by exact eV
   exact⟨Int.ofNat_lt.2 hi2,by simp only[AO];omega⟩
  ·exact eV
  ·have hi2:i<all.length:=by exact eV
   have hn:=hstep hi2
   rw[if_neg (by rw[‹FA _ _=false›];simp),if_pos AA]at hn
   refine⟨⟨(i+1,l++[all.getD i ByteArray.empty]),by simp only;omega,by simp only[List.length_append,List.length_singleton];omega,?_,hn.symm.trans hg⟩,by simp only;omega,AC [(38,.nm 38)] rfl rfl ?_ ?_⟩
   ·intro s hs
    rcases List.mem_append.1 hs with hs|hs
    ·exact hls s hs
    ·have:s=all.getD i ByteArray.empty:=by simpa using hs
     rw[this]
     exact Zm hsz i
   ·first|exact eN|refine eM ?_
   ·first|exact eN|refine eM ?_
  ·exact eV
  ·have hi2:i<all.length:=by exact eV
   have hn:=hstep hi2
   rw[if_neg (by rw[‹FA _ _=false›];simp),if_neg (by rw[AA];simp)]at hn
   refine⟨⟨(i+1,l),by simp only;omega,by simp only;omega,hls,hn.symm.trans hg⟩,by simp only;omega,AC [(38,.nm 38)] rfl rfl ?_ ?_⟩
   ·first|exact eN|refine eM ?_
   ·first|exact eN|refine eM ?_
  ·have hr:Gm d all codes b=pR (Bt d l):=by
    unfold Gm
    rw[←hg]
    have:all.length-i=0:=by exact eV
    rw[this]
    rfl
   refine GD [38] ?_
   repeat'(first|exact trivial|refine eS rfl ?_|refine AB ?_|refine rX [0,1,2,3,8,9,10,11,12,16,24,31,45,49] hc ?_ ?_|refine rC ?_ ?_<;>intro AA<;>try(cases AA;done))
   ·exact⟨hs,hd,by omega⟩
   ·have hmm:∀s∈Bt d l,s.size≤32:=fun s h=>hls s (Vt h)
    have hml:=Vu d l
    have hjf:pR (Bt d l)=R5 (Bt d l) (Bt d l).length:=rfl
    rw[hjf]at hr
    generalize Bt d l=m at *
    refine AK (ι:={k:Nat//k≤m.length}) (fun k=>⟨[(9,.p Bl m),(11,.p T9 (R5 m k.1)),(12,.p (.int .i64) (k.1:Int))],[]⟩) (fun k=>m.length-k.1) ⟨0,Nat.zero_le _⟩ (AC [] rfl rfl ?_ ?_) (fun k=>?_)
    ·first|exact eN|refine eM ?_
    ·first|exact eN|refine eM ?_
     rfl
    ·obtain⟨k,hk⟩:=k
     have hk:k≤m.length:=hk
     have hjs:=R7 hmm k
     have hss:=R6 m k
     have hs2:=Zm hmm k
     unfold X2 at hss
     simp only
     repeat'(first|exact trivial|refine eS rfl ?_|refine AB ?_|refine rX [0,1,2,3,8,9,10,11,12,16,24,31,45,49] hc ?_ ?_|refine rC ?_ ?_<;>intro AA<;>try(cases AA;done))
     ·have h1:(ByteArray.mk #[38]).size=1:=rfl
      rw[h1]
      simp only[AO]
      exact eV
     ·refine⟨by assumption,?_⟩
      have h1:(ByteArray.mk #[38]).size=1:=rfl
      rw[ByteArray.size_append,h1]
      simp only[AO]
      exact eV
     ·exact eV
     ·have hk2:k<m.length:=by exact eV
      rw[if_pos AA]at hss
      refine⟨⟨k+1,hk2⟩,by simp only;omega,AC [] rfl rfl ?_ ?_⟩
      ·first|exact eN|refine eM ?_
      ·simp only[hss]
       first|exact eN|refine eM ?_
     ·refine⟨by assumption,?_⟩
      simp only[AO]
      exact eV
     ·exact eV
     ·have hk2:k<m.length:=by exact eV
      rw[if_neg (Int.not_lt.2 AA)]at hss
      refine⟨⟨k+1,hk2⟩,by simp only;omega,AC [] rfl rfl ?_ ?_⟩
      ·first|exact eN|refine eM ?_
      ·simp only[hss]
       first|exact eN|refine eM ?_
     ·have hk2:k=m.length:=by exact eV
      rw[←hk2]at hr
      exact AG hc [.tmp 8] rfl (.inl rfl) (by simp) (by rw[hr];first|exact eR|refine Al ?_)
end
/- Functions of grammarlabref04: Codes. -/
section
attribute [local go_sem] NF I0 gP QZ Qa QY
def Es (x:AQ) (out:List AQ):Nat→Nat
 | 0=>0
 | n+1=>if FB x (out.getD n c0)=true then Es x out n else n+1
def Vv (out:List AQ) (x:AQ):List AQ:=out.take (Es x out out.length)++[x]++out.drop (Es x out out.length)
def AZ (d:List AJ):List (List Int):=(AU d).map fun s=>F8 d (AU d) s
def FW (d:List AJ) (all:List ByteArray) (codes:List (List Int)) (out:List AQ) (b:List Int):List AQ:=Vv out (Gm d all codes b,b)
def Ob (d:List AJ):List AQ→List Int→List AQ:=FW d (AU d) (AZ d)
theorem MJ (d:List AJ) (all:List ByteArray) (codes:List (List Int)):∀(l:List (List Int)) (o:List AQ),(l.foldl (FW d all codes) o).length=o.length+l.length
 | [],o=>by simp
 | b :: l,o=>by
  rw[List.foldl_cons,MJ d all codes l]
  unfold FW Vv
  simp only[List.length_append,List.length_take,List.length_drop,List.length_cons,List.length_nil]
  omega
theorem R8 {d:List AJ} {all:List ByteArray} {codes:List (List Int)}:∀ {l:List (List Int)} {o:List AQ},(∀c∈l,c.length≤64)→(∀y∈o,y.2.length≤64)→∀y∈l.foldl (FW d all codes) o,y.2.length≤64
 | [],_,_,ho=>ho
 | b :: l,o,hl,ho=>by
  rw[List.foldl_cons]
  refine R8 (fun c hc=>hl c (by simp[hc])) (fun y hy=>?_)
  unfold FW Vv at hy
  simp only[List.mem_append,List.mem_singleton]at hy
  rcases hy with (hy|hy)|hy
  ·exact ho y (List.mem_of_mem_take hy)
  ·rw[hy];exact hl b (by simp)
  ·exact ho y (List.mem_of_mem_drop hy)
theorem X3 (x:AQ) (out:List AQ):∀n,Es x out n≤n
 | 0=>Nat.le_refl _
 | n+1=>by
  unfold Es
  split
  ·exact Nat.le_succ_of_le (X3 x out n)
  ·exact Nat.le_refl _
def Au (d:List AJ):List AQ:=(Ay (AZ d)).foldl (Ob d) []
def Bp (d:List AJ):List AQ×Int :=
 if BE d≠0 then ([],BE d) else if 256<(Ay (AZ d)).length then ([],7) else (Au d,0)
theorem Zn {s:ByteArray} {b:Bool} (h:EL s b=true):s.size≤32:=by
 unfold EL at h
 rw[Bool.and_eq_true]at h
 have h1:=h.1
 unfold OP at h1
 simp only[Bool.not_eq_true',Bool.or_eq_false_iff,decide_eq_false_iff_not]at h1
 have:=h1.1.1.2
 omega
theorem X4 {d:List AJ} (hn:DK d=0):∀s∈AU d,s.size≤32:=by
 intro s hs
 obtain⟨x,hx,rfl⟩:=FU hs
 obtain⟨j,hj,rfl⟩:=FC d0 hx
 exact Zn (KH hn j hj).2
def I3 (d:List AJ) (n:Nat):List (List Int):=((AU d).take n).map fun s=>F8 d (AU d) s
theorem Zo {d:List AJ} {n:Nat} (h:n≤(AU d).length):(I3 d n).length=n:=by simp[I3,h]
theorem X5 {d:List AJ} {n:Nat} (h:n<(AU d).length):I3 d (n+1)=I3 d n++[F8 d (AU d) ((AU d).getD n ByteArray.empty)]:=by
 unfold I3
 rw[Ab _ ByteArray.empty h,List.map_append]
 rfl
theorem Zp (d:List AJ):I3 d (AU d).length=AZ d:=by simp[I3,AZ]
theorem Zq (d:List AJ):(AZ d).length=(AU d).length:=by simp[AZ]
theorem MK {d:List AJ} (h:d.length≤256):∀c∈AZ d,c.length≤64:=by
 intro c hc
 unfold AZ at hc
 obtain⟨s,-,rfl⟩:=List.mem_map.1 hc
 have hnl:=Ef d d.length
 rw[List.take_length]at hnl
 exact(Dy (d:=d) (all:=AU d) (by omega) s 0).2.2
theorem X6 {i:Nat}:∀ {n k:Nat} {l:List (List Int)},(∀c∈l,c.length≤64)→∀c∈F4 i n k l,c.length≤64
 | 0,_,_,h=>h
 | n+1,k,l,h=>by
  unfold F4
  split
  ·exact X6 (Xt h i k)
  ·exact h
theorem NQ:∀ {n i:Nat} {l:List (List Int)},(∀c∈l,c.length≤64)→∀c∈Hq n i l,c.length≤64
 | 0,_,_,h=>h
 | n+1,i,l,h=>by
  unfold Hq
  split
  ·exact NQ (X6 h)
  ·exact h
theorem X7 {out:List AQ} {x y:AQ}:y∈Vv out x↔y=x∨y∈out:=by
 unfold Vv
 rw[List.mem_append,List.mem_append,List.mem_singleton]
 have h:=List.mem_append (a:=y) (s:=out.take (Es x out out.length)) (t:=out.drop (Es x out out.length))
 rw[List.take_append_drop]at h
 rw[h]
 constructor
 ·rintro ((h|h)|h)
  ·exact .inr (.inl h)
  ·exact .inl h
  ·exact .inr (.inr h)
 ·rintro (h|h|h)
  ·exact .inl (.inr h)
  ·exact .inl (.inl h)
  ·exact .inr h
def Hr:Ae:={ ins:=[EH],pre:=fun _=>True,out:=fun(d,_)=>[.p IK (Bp d).1,.p XZ (Bp d).2] }
theorem NR:Ag Tryz.prog 59 Hr:=by
 refine AR Tryz.func59 (by kernel_rfl) rfl Tryz.ntmps59 (by decide) (by kernel_rfl) (AF [(88,NF),(89,I0),(90,gP),(91,QZ),(92,Qa),(93,QY)]) (AD kR (AD UE (AD w5 (AD kW (AD kY (AD kU AH)))))) ?_
 rintro w0 O0 ⟨d,u⟩ hc - -
 simp only[Hr,AN]
 repeat'(first|exact trivial|refine eS rfl ?_|refine AB ?_|refine rX [0,2,3,4,5,6,7,8,9,10,11,12,13,17,24,41,45,73] hc ?_ ?_|refine rC ?_ ?_<;>intro AA<;>try(cases AA;done))
 ·have h1:Bp d=([],BE d):=by unfold Bp;rw[if_pos AA]
  exact AG hc [.tmp 2,.tmp 3] rfl (.inl rfl) (by simp) (by rw[h1];first|exact eR|refine Al ?_)
 ·have h3:BE d=0:=by simpa using AA
  obtain⟨-,h2,-⟩:=A3 h3
  exact Nat.le_trans h2 (by decide)
 ·have h3:BE d=0:=by simpa using AA
  obtain⟨hsup,hd,-,hn,-⟩:=A3 h3
  have hal:=Ef d d.length
  rw[List.take_length]at hal
  have hsz:=X4 hn
  refine AK (ι:={n:Nat//n≤(AU d).length}) (fun n=>⟨[(0,.p EH d),(5,.p Bl (AU d)),(6,.sr 36 A7 0 (I3 d n.1).length),(7,.p (.int .i64) (n.1:Int))],[(36,.arr 107 A7 (I3 d n.1))]⟩) (fun n=>(AU d).length-n.1) ⟨0,Nat.zero_le _⟩ (AC [(36,.nil)] rfl rfl ?_ ?_) (fun n=>?_)
  ·first|exact eN|refine eM ?_
   rfl
  ·first|exact eN|refine eM ?_
   rfl
  ·obtain⟨n,hnn⟩:=n
   have hcl:=Zo hnn
   have hs:=fun h=>X5 (d:=d) (n:=n) h
   simp only
   repeat'(first|exact trivial|refine eS rfl ?_|refine AB ?_|refine rX [0,2,3,4,5,6,7,8,9,10,11,12,13,17,24,41,45,73] hc ?_ ?_|refine rC ?_ ?_<;>intro AA<;>try(cases AA;done))
   ·refine⟨AA,⟨hd,by dsimp only[Ty.den]at *;omega⟩,?_⟩
    simp only[AO]
    dsimp only[Ty.den]at *
    omega
   ·exact eV
   ·have hn2:n<(AU d).length:=by exact eV
    have e:=hs hn2
    refine⟨⟨n+1,by omega⟩,by simp only;omega,AC [(36,.nm 36)] rfl rfl ?_ ?_⟩
    ·simp only[e]
     first|exact eN|refine eM ?_
    ·simp only[e]
     first|exact eN|refine eM ?_
   ·have hn2:n=(AU d).length:=by exact eV
    subst hn2
    rw[Zp]
    have hcL:=Zq d
    have hwid:=MK hd
    have hfw:∀c∈Ay (AZ d),c.length≤64:=NQ hwid
    refine GD [36] ?_
    repeat'(first|exact trivial|refine eS rfl ?_|refine AB ?_|refine rX [0,2,3,4,5,6,7,8,9,10,11,12,13,17,24,41,45,73] hc ?_ ?_|refine rC ?_ ?_<;>intro AA<;>try(cases AA;done))
    ·exact⟨by omega,hwid⟩
    ·have h1:Bp d=([],7):=by
      unfold Bp
      rw[if_neg (by rw[h3];simp),if_pos (by omega)]
     exact AG hc [.tmp 2,.tmp 3] rfl (.inl rfl) (by simp) (by rw[h1];first|exact eR|refine Al ?_)
    ·have hr:Bp d=((Ay (AZ d)).foldl (FW d (AU d) (AZ d)) [],0):=by
      unfold Bp
      rw[if_neg (by rw[h3];simp),if_neg (by omega)]
      rfl
     generalize Ay (AZ d)=fam at *
     generalize AZ d=codes at *
     generalize AU d=all at *
     refine AK (ι:={k:Nat//k≤fam.length}) (fun k=>⟨[(0,.p EH d),(5,.p Bl all),(6,.p QF codes),(8,.p QF fam),(9,.sr 9 Vh 0 ((fam.take k.1).foldl (FW d all codes) []).length),(10,.p (.int .i64) (k.1:Int))],[(9,.arr 109 Vh ((fam.take k.1).foldl (FW d all codes) []))]⟩) (fun k=>fam.length-k.1) ⟨0,Nat.zero_le _⟩ (AC [(9,.nil)] rfl rfl ?_ ?_) (fun k=>?_)
     ·first|exact eN|refine eM ?_
      rfl
     ·first|exact eN|refine eM ?_
      rfl
     ·obtain⟨k,hk⟩:=k
      have hol:=MJ d all codes (fam.take k) []
      have htl:(fam.take k).length=k:=by rw[List.length_take];exact Nat.min_eq_left hk
      have how:=R8 (d:=d) (all:=all) (codes:=codes) (l:=fam.take k) (o:=[]) (fun c hc=>hfw c (List.mem_of_mem_take hc)) (by simp)
      have hss:=fun h:k<fam.length=>EC (FW d all codes) fam [] [] h
      rw[htl]at hol
      simp only[List.length_nil,Nat.zero_add]at hol
      generalize ho:(fam.take k).foldl (FW d all codes) []=out at *
      simp only
      repeat'(first|exact trivial|refine eS rfl ?_|refine AB ?_|refine rX [0,2,3,4,5,6,7,8,9,10,11,12,13,17,24,41,45,73] hc ?_ ?_|refine rC ?_ ?_<;>intro AA<;>try(cases AA;done))
      ·exact⟨AA,⟨hsup,hd,by omega,hcL,hsz,hwid,KF hfw k⟩,AA⟩
      ·have hk2:k<fam.length:=by exact eV
       have e:=hss hk2
       have hbw:=KF hfw k
       generalize fam.getD k []=b at *
       unfold FW at e
       generalize Gm d all codes b=nm at *
       refine AK (ι:={q:Nat//q≤out.length∧Es (nm,b) out q=Es (nm,b) out out.length}) (fun q=>⟨[(0,.p EH d),(5,.p Bl all),(6,.p QF codes),(8,.p QF fam),(9,.sr 9 Vh 0 out.length),(10,.p (.int .i64) (k:Int)),(11,.bp 11 [] 0),(12,.p (.int .i64) (q.1:Int))],[(9,.arr 109 Vh out),(11,.box 109 true [.p T9 nm,.p A7 b])]⟩) (fun q=>q.1) ⟨out.length,Nat.le_refl _,rfl⟩ (AC [(9,.nm 9),(11,.nm 11)] rfl rfl ?_ ?_) (fun q=>?_)
       ·first|exact eN|refine eM ?_
       ·first|exact eN|refine eM ?_
       ·obtain⟨q,hq,hins⟩:=q
        have hq:q≤out.length:=hq
        simp only
        repeat'(first|exact trivial|refine eS rfl ?_|refine AB ?_|refine rX [0,2,3,4,5,6,7,8,9,10,11,12,13,17,24,41,45,73] hc ?_ ?_|refine rC ?_ ?_<;>intro AA<;>try(cases AA;done))
        ·refine⟨fun h=>by omega,fun h=>by exact eV,fun h=>⟨Nat.le_trans hbw (by decide),Nat.le_trans (how _ (AE out c0 (k:=((q:Int)-1).toNat) (by omega))) (by decide)⟩⟩
        ·omega
        ·obtain⟨g1,g2⟩:=AA
         obtain⟨q,rfl⟩:∃r,q=r+1:=⟨q-1,by omega⟩
         have g3:((q+1:Nat):Int)-1=(q:Int):=by omega
         refine⟨⟨q,by omega,?_⟩,Nat.lt_succ_self q,AC [(9,.nm 9),(11,.nm 11)] rfl rfl ?_ ?_⟩
         ·rw[←hins]
          rw[g3,Int.toNat_natCast]at g2
          show _=if FB (nm,b) (out.getD q c0)=true then Es (nm,b) out q else q+1
          rw[if_pos g2]
         ·first|exact eN|refine eM ?_
         ·first|exact eN|refine eM ?_
          show (q:Int)+1-1=q
          omega
        ·refine⟨Int.ofNat_le.2 hq,?_⟩
         rw[List.length_take]
         simp only[AO]
         omega
        ·rw[List.length_take]
         simp only[AO]
         omega
        ·refine⟨Int.ofNat_le.2 hq,?_⟩
         rw[List.length_take,List.length_drop]
         simp only[AO]
         omega
        ·omega
        ·have hpos:Es (nm,b) out q=q:=by
          cases q with
          | zero=>rfl
          | succ q =>
           have g3:((q+1:Nat):Int)-1=(q:Int):=by omega
           have:=AA (by omega)
           rw[g3,Int.toNat_natCast]at this
           show (if FB (nm,b) (out.getD q c0)=true then Es (nm,b) out q else q+1)=q+1
           rw[if_neg (by rw[this];simp)]
         unfold Vv at e
         rw[←hins,hpos]at e
         refine⟨⟨k+1,by omega⟩,by simp only;omega,AC [(9,.nm 80)] rfl rfl ?_ ?_⟩
         ·first|exact eN|refine eM ?_
          exact e.symm
         ·first|exact eN|refine eM ?_
          have e2:=congrArg List.length e
          rw[List.length_append,List.length_append]at e2
          exact e2.symm
      ·have hk2:k=fam.length:=by exact eV
       rw[hk2,List.take_length]at ho
       rw[ho]at hr
       refine GD [9] ?_
       exact AG hc [.tmp 2,.tmp 3] rfl (.inl rfl) (by simp) (by rw[hr];first|exact eR|refine Al ?_)
end
/- Plain: each declared type has a number among the codes. -/
section
theorem UR {d:List AJ}:∀ {l:List (List Int)} {o:List AQ} {y:AQ},y∈l.foldl (Ob d) o↔y∈o∨∃b∈l,y=(Gm d (AU d) (AZ d) b,b)
 | [],o,y=>by simp
 | b :: l,o,y=>by
  rw[List.foldl_cons,UR]
  unfold Ob FW
  rw[X7]
  simp only[List.mem_cons]
  constructor
  ·rintro ((h|h)|⟨c,hc,e⟩)
   ·exact .inr ⟨b,.inl rfl,h⟩
   ·exact .inl h
   ·exact .inr ⟨c,.inr hc,e⟩
  ·rintro (h|⟨c,rfl|hc,e⟩)
   ·exact .inl (.inr h)
   ·exact .inl (.inl e)
   ·exact .inr ⟨c,hc,e⟩
theorem DP {d:List AJ} {y:AQ}:y∈Au d↔∃b∈Ay (AZ d),y=(Gm d (AU d) (AZ d) b,b):=by
 unfold Au
 rw[UR]
 simp
theorem Gn (d:List AJ):(Au d).length=(Ay (AZ d)).length:=by
 have h:=MJ d (AU d) (AZ d) (Ay (AZ d)) []
 rw[List.length_nil,Nat.zero_add]at h
 exact h
theorem pS {l:List (List Int)} {i k:Nat} {c:List Int} (h:c∈l):c∈F3 l i k:=by
 unfold F3
 split
 ·exact List.mem_append.2 (.inl h)
 ·exact h
theorem X8 {i:Nat} {c:List Int}:∀ {n k:Nat} {l:List (List Int)},c∈l→c∈F4 i n k l
 | 0,_,_,h=>h
 | n+1,k,l,h=>by
  unfold F4
  split
  ·exact X8 (pS h)
  ·exact h
theorem X9 {c:List Int}:∀ {n i:Nat} {l:List (List Int)},c∈l→c∈Hq n i l
 | 0,_,_,h=>h
 | n+1,i,l,h=>by
  unfold Hq
  split
  ·exact X9 (X8 h)
  ·exact h
theorem Pi (d:List AJ) {i:Nat} (h:i<(AU d).length):(AZ d).getD i []=F8 d (AU d) ((AU d).getD i ByteArray.empty):=by
 unfold AZ
 simp[List.getD_eq_getElem?_getD,h]
theorem gQ {d:List AJ} (hn:DK d=0) (hl:d.length≤(BW d).length) (h2:d.length≤256) {j:Nat} (hj:j<(AU d).length):∀(m i:Nat) (l:List ByteArray),i+m=(AU d).length→i≤j →
  ∃s,y6 d (AU d) (AZ d) ((AZ d).getD j []) m i l=.inl s∧Ak s ((AU d).getD j ByteArray.empty)=true
 | 0,i,l,h,hij=>by omega
 | m+1,i,l,h,hij=>by
  unfold y6
  split
  ·rename_i he
   refine⟨_,rfl,?_⟩
   rw[Pi d (by omega),Pi d hj]at he
   exact X0 hn hl h2 (by omega) hj he
  ·rename_i he
   have hne:i≠j:=by
    intro e
    subst e
    exact he (Xw _)
   exact gQ hn hl h2 hj m (i+1) _ (by omega) (by omega)
theorem gR (s:ByteArray):∀(l:List AQ) (k:Nat),OW s k l<((k+l.length:Nat):Int)
 | [],k=>by simp only[OW];omega
 | x :: l,k=>by
  simp only[OW]
  split
  ·simp only[List.length_cons];omega
  ·have:=gR s l (k+1)
   simp only[List.length_cons]
   omega
theorem gS (s:ByteArray):∀(l:List AQ) (k:Nat) (x:AQ),x∈l→Ak x.1 s=true→0≤OW s k l
 | [],_,_,h,_=>by cases h
 | y :: l,k,x,h,e=>by
  simp only[OW]
  split
  ·omega
  ·rename_i hy
   rcases List.mem_cons.1 h with rfl|h
   ·exact absurd e hy
   ·exact gS s l (k+1) x h e
theorem Zr (l:List AQ) (s:ByteArray):Cp l s<(l.length:Int):=by
 have:=gR s l 0
 rw[Nat.zero_add]at this
 exact this
theorem Pj {d:List AJ} (h:BE d=0) {s:ByteArray} (hs:AY (AU d) s=true):0≤Cp (Au d) s:=by
 obtain⟨-,h2,-,hn,hl⟩:=A3 h
 obtain⟨t,ht,e⟩:=List.any_eq_true.1 hs
 obtain⟨j,hj,rfl⟩:=FC ByteArray.empty ht
 obtain⟨u,hu,eu⟩:=gQ hn hl h2 hj (AU d).length 0 [] (by omega) (by omega)
 have hlen:(AZ d).length=(AU d).length:=by simp[AZ]
 refine gS s (Au d) 0 (u,(AZ d).getD j []) ?_ (B2 eu e)
 rw[DP]
 refine⟨(AZ d).getD j [],X9 (Ct (by omega)),?_⟩
 unfold Gm
 rw[hu]
theorem Pk {d:List AJ} (h:BE d=0) {x:AJ} (hx:x∈d):0≤Cp (Au d) x.1:=Pj h (R4 hx)
theorem Bc {d:List AJ} (h:(Bp d).2=0):BE d=0∧(Ay (AZ d)).length≤256∧(Bp d).1=Au d:=by
 unfold Bp at h ⊢
 split at h
 ·rename_i h1;exact absurd h h1
 ·rename_i h1
  split at h
  ·cases h
  ·rename_i h2
   exact⟨Classical.byContradiction h1,by omega,by rw[if_neg h1,if_neg h2]⟩
theorem xB {d:List AJ} (h:BE d=0):0<(Au d).length:=by
 obtain⟨-,-,hr,-,-⟩:=A3 h
 cases d with
 | nil=>cases hr
 | cons x d =>
  have:=Pk h (x:=x) (by simp)
  have h2:=Zr (Au (x :: d)) x.1
  omega
end
/- Functions of grammarlabref04: Supers. -/
section
attribute [local go_sem] UI
def A02 (l:List AQ) (i k:Int) (m:Nat):Bool:=(m:Int)==i||(m:Int)==k||!Lc l k (m:Int)||!Lc l (m:Int) i
def kZ (l:List AQ) (i k:Int) (n:Nat):Bool:=(List.range n).all (A02 l i k)
def k4 (l:List AQ) (i:Int) (k:Nat):Bool:=!((k:Int)==i||!Lc l (k:Int) i)&&kZ l i (k:Int) l.length
def Le (l:List AQ) (i:Int) (n:Nat):List Int:=((List.range n).filter fun(k:Nat)=>k4 l i k).map fun(k:Nat)=>(k:Int)
def YA (l:List AQ) (i:Int):List Int:=Le l i l.length
theorem Zs (l:List AQ) (i:Int) (n:Nat):Le l i (n+1)=Le l i n++if k4 l i n=true then [(n:Int)] else []:=by
 unfold Le
 rw[List.range_succ,List.filter_append,List.map_append]
 congr 1
 rw[List.filter_cons,List.filter_nil]
 split<;>rfl
theorem k5 (l:List AQ) (i:Int) (n:Nat):(Le l i n).length≤n:=by
 unfold Le
 rw[List.length_map]
 exact Nat.le_trans (List.length_filter_le _ _) (by simp)
theorem k6 (l:List AQ) (i k:Int) (n:Nat):kZ l i k (n+1)=(kZ l i k n&&A02 l i k n):=by
 unfold kZ
 rw[List.range_succ,List.all_append]
 simp
def gT:Ae:={ ins:=[IK,T3],pre:=fun(l,i,_)=>((0:Int)≤i∧i<(List.length l:Int))∧List.length l≤256∧(∀x∈(l:List AQ),x.2.length≤64),out:=fun(l,i,_)=>[.p Bz (YA l i)] }
theorem xC:Ag Tryz.prog 60 gT:=by
 refine AR Tryz.func60 (by kernel_rfl) rfl Tryz.ntmps60 (by decide) (by kernel_rfl) (AF [(94,UI)]) (AD gN AH) ?_
 rintro w0 O0 ⟨l,i,u⟩ hc-⟨hi,hl,hx⟩
 have hl:l.length≤256:=hl
 have hx2:∀x∈(l:List AQ),x.2.length≤100000:=fun x h=>Nat.le_trans (hx x h) (by decide)
 simp only[gT,AN]
 repeat'(first|exact trivial|refine eS rfl ?_|refine AB ?_|refine rX [0,1,4,5,6,7,8,12,24,28,56] hc ?_ ?_|refine rC ?_ ?_<;>intro AA<;>try(cases AA;done))
 refine AK (ι:={k:Nat//k≤l.length}) (fun k=>⟨[(0,.p IK l),(1,.p T3 i),(5,.sr 60 T3 0 (Le l i k.1).length),(6,.p (.int .i64) (k.1:Int))],[(60,.arr 3 T3 (Le l i k.1))]⟩) (fun k=>l.length-k.1) ⟨0,Nat.zero_le _⟩ (AC [(60,.nil)] rfl rfl ?_ ?_) (fun k=>?_)
 ·first|exact eN|refine eM ?_
  rfl
 ·first|exact eN|refine eM ?_
  rfl
 ·obtain⟨k,hk⟩:=k
  have hk:k≤l.length:=hk
  have hz:=k5 l i k
  have hs:=Zs l i k
  simp only
  repeat'(first|exact trivial|refine eS rfl ?_|refine AB ?_|refine rX [0,1,4,5,6,7,8,12,24,28,56] hc ?_ ?_|refine rC ?_ ?_<;>intro AA<;>try(cases AA;done))
  ·intro h
   exact⟨by assumption,hi,hx2⟩
  ·exact eV
  ·have hk2:k<l.length:=by exact eV
   have hb:k4 l i k=false:=by
    unfold k4
    rw[Bool.and_eq_false_iff]
    left
    rw[Bool.not_eq_false',Bool.or_eq_true,beq_iff_eq,Bool.not_eq_true']
    exact AA
   rw[hb,if_neg (by simp),List.append_nil]at hs
   refine⟨⟨k+1,by omega⟩,by simp only;omega,AC [(60,.nm 60)] rfl rfl ?_ ?_⟩
   ·simp only[hs]
    first|exact eN|refine eM ?_
   ·simp only[hs]
    first|exact eN|refine eM ?_
  ·have hk2:k<l.length:=by exact eV
   have hb:k4 l i k=kZ l i (k:Int) l.length:=by
    unfold k4
    rw[show ((k:Int)==i||!Lc l (k:Int) i)=false by
     rw[Bool.or_eq_false_iff,beq_eq_false_iff_ne,Bool.not_eq_false'];exact AA]
    rfl
   refine AK (ι:={m:Nat//m≤l.length}) (fun m=>⟨[(0,.p IK l),(1,.p T3 i),(5,.sr 60 T3 0 (Le l i k).length),(6,.p (.int .i64) (k:Int)),(7,.p .bool (kZ l i (k:Int) m.1)),(8,.p (.int .i64) (m.1:Int))],[(60,.arr 3 T3 (Le l i k))]⟩) (fun m=>l.length-m.1) ⟨0,Nat.zero_le _⟩ (AC [(60,.nm 60)] rfl rfl ?_ ?_) (fun m=>?_)
   ·first|exact eN|refine eM ?_
   ·first|exact eN|refine eM ?_
    rfl
   ·obtain⟨m,hm⟩:=m
    have hm:m≤l.length:=hm
    have hds:=k6 l i (k:Int) m
    simp only
    repeat'(first|exact trivial|refine eS rfl ?_|refine AB ?_|refine rX [0,1,4,5,6,7,8,12,24,28,56] hc ?_ ?_|refine rC ?_ ?_<;>intro AA<;>try(cases AA;done))
    ·exact⟨fun h=>⟨by assumption,AA,hx2⟩,fun h=>⟨AA,hi,hx2⟩⟩
    ·exact eV
    ·have hm2:m<l.length:=by exact eV
     refine⟨⟨m+1,by omega⟩,by simp only;omega,AC [(60,.nm 60)] rfl rfl ?_ ?_⟩
     ·first|exact eN|refine eM ?_
     ·simp only[hds]
      unfold A02
      first|exact eN|refine eM ?_
    ·simp only[AO];dsimp only[Ty.den]at *;omega
    ·exact eV
    ·have hm2:m=l.length:=by exact eV
     subst hm2
     rw[hb,if_pos AA]at hs
     refine⟨⟨k+1,by omega⟩,by simp only;omega,AC [(60,.nm 60)] rfl rfl ?_ ?_⟩
     ·simp only[hs]
      first|exact eN|refine eM ?_
     ·simp only[hs]
      first|exact eN|refine eM ?_
    ·exact eV
    ·have hm2:m=l.length:=by exact eV
     subst hm2
     rw[hb,if_neg (by rw[AA];simp),List.append_nil]at hs
     refine⟨⟨k+1,by omega⟩,by simp only;omega,AC [(60,.nm 60)] rfl rfl ?_ ?_⟩
     ·simp only[hs]
      first|exact eN|refine eM ?_
     ·simp only[hs]
      first|exact eN|refine eM ?_
  ·have hk2:k=l.length:=by exact eV
   subst hk2
   refine GD [60] ?_
   exact AG hc [.tmp 4] rfl (.inl rfl) (by simp) (by unfold YA;first|exact eR|refine Al ?_)
end
/- Functions of grammarlabref05: declarations. -/
section
attribute [local go_sem] I0 ND Dg
abbrev FV:=ByteArray×ByteArray
abbrev xD:FV:=(ByteArray.empty,ByteArray.empty)
def mQ (all:List ByteArray) (l:List FV):Nat→List FV→Int
 | _,[]=>0
 | k,x :: r=>if EL x.1 true=false then 1 else if ((l.take k).any fun y=>Ak y.1 x.1)=true then 4 else if AY all x.2=false then 5 else mQ all l (k+1) r
def Vx (all:List ByteArray):List AJ→Int
 | []=>0
 | x :: l=>if mQ all x.2.2 0 x.2.2≠0 then mQ all x.2.2 0 x.2.2 else Vx all l
def KI (d:List AJ):Int:=Vx (AU d) d
theorem pT (all:List ByteArray) (l:List FV) {k:Nat} (h:k<l.length):mQ all l k (l.drop k)=if EL (l.getD k xD).1 true=false then 1 else if ((l.take k).any fun y=>Ak y.1 (l.getD k xD).1)=true then 4 else if AY all (l.getD k xD).2=false then 5 else mQ all l (k+1) (l.drop (k+1)):=by
 rw[List.drop_eq_getElem_cons h]
 have e:l.getD k xD=l[k]:=by simp[List.getD_eq_getElem?_getD,h]
 rw[e]
 rfl
theorem k7 (all:List ByteArray) (l:List AJ) {k:Nat} (h:k<l.length):Vx all (l.drop k)=if mQ all (l.getD k d0).2.2 0 (l.getD k d0).2.2≠0 then mQ all (l.getD k d0).2.2 0 (l.getD k d0).2.2 else Vx all (l.drop (k+1)):=by
 rw[List.drop_eq_getElem_cons h]
 have e:l.getD k d0=l[k]:=by simp[List.getD_eq_getElem?_getD,h]
 rw[e]
 rfl
def Vy:Ae:={ ins:=[EH],pre:=fun(d,_)=>List.length d≤256,out:=fun(d,_)=>[.p XZ (KI d)] }
theorem pU:Ag Tryz.prog 121 Vy:=by
 refine AR Tryz.func121 (by kernel_rfl) rfl Tryz.ntmps121 (by decide) (by kernel_rfl) (AF [(89,I0),(149,ND),(131,Dg)]) (AD UE (AD Zc (AD Fm AH))) ?_
 rintro w0 O0 ⟨d,u⟩ hc ⟨⟨hdl,hall⟩,-⟩ hd
 have hd:d.length≤256:=hd
 simp only[Vy,AN]
 repeat'(first|exact trivial|refine eS rfl ?_|refine AB ?_|refine rX [0,2,3,4,5,6,7,13,24,33,36,49,57] hc ?_ ?_|refine rC ?_ ?_<;>intro AA<;>try(cases AA;done))
 ·exact Nat.le_trans hd (by decide)
 ·have hdf:KI d=Vx (AU d) d:=rfl
  rw[hdf]
  generalize AU d=all at *
  refine AK (ι:={i:Nat//i≤d.length∧Vx all (d.drop i)=Vx all d}) (fun i=>⟨[(0,.p EH d),(3,.p Bl all),(4,.p (.int .i64) (i.1:Int))],[]⟩) (fun i=>d.length-i.1) ⟨0,Nat.zero_le _,rfl⟩ (AC [] rfl rfl ?_ ?_) (fun i=>?_)
  ·first|exact eN|refine eM ?_
  ·first|exact eN|refine eM ?_
  ·obtain⟨i,hi,hf⟩:=i
   simp only
   repeat'(first|exact trivial|refine eS rfl ?_|refine AB ?_|refine rX [0,2,3,4,5,6,7,13,24,33,36,49,57] hc ?_ ?_|refine rC ?_ ?_<;>intro AA<;>try(cases AA;done))
   ·exact AA
   ·have hi2:i<d.length:=by exact eV
    rw[k7 all d hi2]at hf
    have hfl:(d.getD i d0).2.2.length≤AO:=(hall _ (AE d d0 hi2)).2.2.1
    have hfe:(List.getD d i (ByteArray.empty,[],[])).2.2=(d.getD i d0).2.2:=rfl
    rw[hfe]
    generalize (d.getD i d0).2.2=l at *
    simp only[AO]at hfl
    refine AK (ι:={k:Nat//k≤l.length∧mQ all l k (l.drop k)=mQ all l 0 l}) (fun k=>⟨[(0,.p EH d),(3,.p Bl all),(4,.p (.int .i64) (i:Int)),(5,.p Xb l),(6,.p (.int .i64) (k.1:Int))],[]⟩) (fun k=>l.length-k.1) ⟨0,Nat.zero_le _,rfl⟩ (AC [] rfl rfl ?_ ?_) (fun k=>?_)
    ·first|exact eN|refine eM ?_
    ·first|exact eN|refine eM ?_
    ·obtain⟨k,hk,hg⟩:=k
     have hstep:=fun h:k<l.length=>pT all l h
     simp only
     repeat'(first|exact trivial|refine eS rfl ?_|refine AB ?_|refine rX [0,2,3,4,5,6,7,13,24,33,36,49,57] hc ?_ ?_|refine rC ?_ ?_<;>intro AA<;>try(cases AA;done))
     ·exact AA
     ·have hk2:k<l.length:=by exact eV
      rw[hstep hk2,if_pos AA]at hg
      rw[←hg,if_pos (by decide)]at hf
      exact AG hc [.tmp 2] rfl (.inl rfl) (by simp) (by rw[←hf];first|exact eR|refine Al ?_)
     ·have hk2:k<l.length:=by exact eV
      have hkI:(k:Int)<(l.length:Int):=Int.ofNat_lt.2 hk2
      rw[hstep hk2,if_neg (by rw[AA];simp)]at hg
      refine AK (ι:={m:Nat//m≤k∧((l.take m).any fun y=>Ak y.1 (l.getD k xD).1)=false}) (fun m=>⟨[(0,.p EH d),(3,.p Bl all),(4,.p (.int .i64) (i:Int)),(5,.p Xb l),(6,.p (.int .i64) (k:Int)),(7,.p (.int .i64) (m.1:Int))],[]⟩) (fun m=>k-m.1) ⟨0,Nat.zero_le _,rfl⟩ (AC [] rfl rfl ?_ ?_) (fun m=>?_)
      ·first|exact eN|refine eM ?_
      ·first|exact eN|refine eM ?_
      ·obtain⟨m,hm,hany⟩:=m
       have hstep2:=fun h:m<l.length=>K3 l xD (fun y=>Ak y.1 (l.getD k xD).1) h
       simp only
       repeat'(first|exact trivial|refine eS rfl ?_|refine AB ?_|refine rX [0,2,3,4,5,6,7,13,24,33,36,49,57] hc ?_ ?_|refine rC ?_ ?_<;>intro AA<;>try(cases AA;done))
       ·have h1:(m:Int)<(k:Int):=AA
        exact⟨by exact eV,hkI⟩
       ·have hm2:m<k:=Int.ofNat_lt.1 (by assumption)
        have h2:=hstep2 (by omega)
        have h3:((l.take k).any fun y=>Ak y.1 (l.getD k xD).1)=true:=by
         rw[List.any_eq_true]
         exact⟨l.getD m xD,by
          rw[List.mem_take_iff_getElem]
          refine⟨m,by omega,?_⟩
          simp[List.getD_eq_getElem?_getD,show m<l.length by omega],AA⟩
        rw[if_pos h3]at hg
        rw[←hg,if_pos (by decide)]at hf
        exact AG hc [.tmp 2] rfl (.inl rfl) (by simp) (by rw[←hf];first|exact eR|refine Al ?_)
       ·omega
       ·have hm2:m<k:=Int.ofNat_lt.1 (by assumption)
        have h2:=hstep2 (by omega)
        refine⟨⟨m+1,by omega,?_⟩,by simp only;omega,AC [] rfl rfl ?_ ?_⟩
        ·rw[h2,hany]
         exact AA
        ·first|exact eN|refine eM ?_
        ·first|exact eN|refine eM ?_
       ·exact hkI
       ·have hm2:m=k:=by omega
        subst hm2
        rw[if_neg (by rw[hany];simp),if_pos AA]at hg
        rw[←hg,if_pos (by decide)]at hf
        exact AG hc [.tmp 2] rfl (.inl rfl) (by simp) (by rw[←hf];first|exact eR|refine Al ?_)
       ·have:=hdl
        simp only[AO]at this
        omega
       ·have hm2:m=k:=by omega
        subst hm2
        rw[if_neg (by rw[hany];simp),if_neg (by rw[AA];simp)]at hg
        refine⟨⟨m+1,by omega,hg⟩,by simp only;omega,AC [] rfl rfl ?_ ?_⟩
        ·first|exact eN|refine eM ?_
        ·first|exact eN|refine eM ?_
     ·omega
     ·have hk2:l.drop k=[]:=List.drop_eq_nil_of_le (Int.ofNat_le.1 AA)
      rw[hk2]at hg
      rw[←hg,if_neg (by simp[mQ])]at hf
      refine⟨⟨i+1,by omega,hf⟩,by simp only;omega,AC [] rfl rfl ?_ ?_⟩
      ·first|exact eN|refine eM ?_
      ·first|exact eN|refine eM ?_
   ·have hk2:d.drop i=[]:=List.drop_eq_nil_of_le (by exact eV)
    rw[hk2]at hf
    exact AG hc [.tmp 2] rfl (.inl rfl) (by simp) (by rw[←hf];first|exact eR|refine Al ?_;rfl)
end
/- Functions of grammarlabref05: intro. -/
section
attribute [local go_sem] OX L7 Gj cs0
def Pl (s:ByteArray) (o:List ByteArray) (x:AJ):List ByteArray:=if (FT x s).2=true then Dh o x.1 else o
def Hs (d:List AJ) (s:ByteArray):List ByteArray:=d.foldl (Pl s) []
theorem Zt (s:ByteArray) (d:List AJ) (k:Nat):(Hs (d.take k) s).length≤k:=by
 have key:∀(l:List AJ) (o:List ByteArray),(l.foldl (Pl s) o).length≤o.length+l.length:=by
  intro l
  induction l with
  | nil=>intro o;simp
  | cons x l ih =>
   intro o
   have h1:=ih (Pl s o x)
   have h2:(Pl s o x).length≤o.length+1:=by
    unfold Pl
    split
    ·exact KA o x.1
    ·omega
   simp only[List.foldl_cons,List.length_cons]
   omega
 have h1:=key (d.take k) []
 have h2:=List.length_take_le k d
 unfold Hs
 simp only[List.length_nil]at h1
 omega
def FX (d:List AJ) (s:ByteArray):ByteArray×Bool:=if (Bt d (Hs d s)).length=1 then ((Bt d (Hs d s)).getD 0 ByteArray.empty,true) else (ByteArray.empty,false)
def Oc:Ae:={ ins:=[EH,T9],pre:=fun(d,_,_)=>Rr d∧List.length d≤256,out:=fun(d,s,_)=>[.p T9 (FX d s).1,.p .bool (FX d s).2] }
theorem YB:Ag Tryz.prog 95 Oc:=by
 refine AR Tryz.func95 (by kernel_rfl) rfl Tryz.ntmps95 (by decide) (by kernel_rfl) (AF [(123,OX),(122,L7),(136,Gj)]) (AD Xr (AD OQ (AD Rw AH))) ?_
 rintro w0 O0 ⟨d,s,u⟩ hc-⟨hsup,hd⟩
 have hd:d.length≤256:=hd
 simp only[Oc,AN]
 repeat'(first|exact trivial|refine eS rfl ?_|refine AB ?_|refine rX [0,1,4,5,6,7,9,10,14,26,39] hc ?_ ?_|refine rC ?_ ?_<;>intro AA<;>try(cases AA;done))
 refine AK (ι:={i:Nat//i≤d.length}) (fun i=>⟨[(0,.p EH d),(1,.p T9 s),(6,.p Bl (Hs (d.take i.1) s)),(7,.p (.int .i64) (i.1:Int))],[]⟩) (fun i=>d.length-i.1) ⟨0,Nat.zero_le _⟩ (AC [] rfl rfl ?_ ?_) (fun i=>?_)
 ·first|exact eN|refine eM ?_
 ·first|exact eN|refine eM ?_
  rfl
 ·obtain⟨i,hi⟩:=i
  have hi:i≤d.length:=hi
  have hn:=Zt s d i
  have hs:=fun h:i<d.length=>EC (Pl s) d d0 [] h
  have hfe:∀e,Hs e s=e.foldl (Pl s) []:=fun _=>rfl
  rw[←hfe,←hfe]at hs
  unfold Pl at hs
  simp only
  repeat'(first|exact trivial|refine eS rfl ?_|refine AB ?_|refine rX [0,1,4,5,6,7,9,10,14,26,39] hc ?_ ?_|refine rC ?_ ?_<;>intro AA<;>try(cases AA;done))
  ·exact AA
  ·exact⟨by assumption,by omega⟩
  ·exact eV
  ·have hi2:i<d.length:=by exact eV
   have e:=hs hi2
   rw[if_pos AA]at e
   refine⟨⟨i+1,by omega⟩,by simp only;omega,AC [] rfl rfl ?_ ?_⟩
   ·first|exact eN|refine eM ?_
   ·simp only[e]
    first|exact eN|refine eM ?_
  ·exact eV
  ·have hi2:i<d.length:=by exact eV
   have e:=hs hi2
   rw[if_neg (by rw[AA];simp)]at e
   refine⟨⟨i+1,by omega⟩,by simp only;omega,AC [] rfl rfl ?_ ?_⟩
   ·first|exact eN|refine eM ?_
   ·simp only[e]
    first|exact eN|refine eM ?_
  ·exact⟨hsup,hd,by omega⟩
  ·have hi2:d.take i=d:=List.take_of_length_le (by exact eV)
   rw[hi2]at AA ⊢
   have h1:FX d s=(ByteArray.empty,false):=by
    unfold FX
    rw[if_neg (by omega)]
   exact AG hc [.tmp 4,.tmp 5] rfl (.inl rfl) (by simp) (by rw[h1];first|exact eR|refine Al ?_;first|rfl|exact⟨rfl,rfl⟩)
  ·have h2:((Bt d (Hs (d.take i) s)).length:Int)=1:=by simpa using AA
   have h3:(0:Int)<((Bt d (Hs (d.take i) s)).length:Int):=by rw[h2];decide
   exact h3
  ·have hi2:d.take i=d:=List.take_of_length_le (by exact eV)
   rw[hi2]at AA ⊢
   have h2:((Bt d (Hs d s)).length:Int)=1:=by simpa using AA
   have h1:FX d s=((Bt d (Hs d s)).getD 0 ByteArray.empty,true):=by
    unfold FX
    rw[if_pos (by omega)]
   exact AG hc [.tmp 4,.tmp 5] rfl (.inl rfl) (by simp) (by rw[h1];first|exact eR|refine Al ?_)
end
/- Functions of grammarlabref05: inherited. -/
section
attribute [local go_sem] OX K7 UI Xj
def TK (l:List AQ) (t:Int) (s:ByteArray) (o:List Int×Bool) (x:AJ):List Int×Bool :=
 if (!(FT x s).2||!Lc l (Cp l x.1) t)=true then o else (FE o.1 (l.getD (Cp l (FT x s).1).toNat c0).2,true)
def R9 (d:List AJ) (l:List AQ) (t:Int) (s:ByteArray):List Int×Bool:=d.foldl (TK l t s) ((l.getD 0 c0).2,false)
def xE (d:List AJ) (l:List AQ):Prop:=(∀x∈d,0≤Cp l x.1)∧∀x∈d,∀y∈x.2.2,0≤Cp l y.2
theorem YC (s:ByteArray):∀(l:List (ByteArray×ByteArray)),(Xq s l).2=true→∃y∈l,y.2=(Xq s l).1
 | [],h=>by cases h
 | x :: l,h=>by
  simp only[Xq]at h ⊢
  split at h
  ·rename_i h1
   rw[if_pos h1]
   exact⟨x,by simp,rfl⟩
  ·rename_i h1
   rw[if_neg h1]
   obtain⟨y,hy,e⟩:=YC s l h
   exact⟨y,by simp[hy],e⟩
theorem xE.value {d:List AJ} {l:List AQ} (h:xE d l) {x:AJ} (hx:x∈d) {s:ByteArray} (hv:(FT x s).2=true):0≤Cp l (FT x s).1:=by
 obtain⟨y,hy,e⟩:=YC s x.2.2 hv
 have:=h.2 x hx y hy
 rw[e]at this
 exact this
theorem pV {l:List AQ} (t:Int) (s:ByteArray) (x:AJ) {o:List Int×Bool} (h:o.1.length≤64):(TK l t s o x).1.length≤64:=by
 unfold TK
 split
 ·exact h
 ·exact Nat.le_trans (Xs _ _) h
theorem SA {l:List AQ} (t:Int) (s:ByteArray):∀(d:List AJ) {o:List Int×Bool},o.1.length≤64→(d.foldl (TK l t s) o).1.length≤64
 | [],_,h=>h
 | x :: d,_,h=>by rw[List.foldl_cons];exact SA t s d (pV t s x h)
theorem YD (s:ByteArray):∀(l:List AQ) (k:Nat),OW s k l<((k+l.length:Nat):Int)
 | [],k=>by simp only[OW];omega
 | x :: l,k=>by
  simp only[OW]
  split
  ·simp only[List.length_cons];omega
  ·have:=YD s l (k+1)
   simp only[List.length_cons]
   omega
theorem Pm (l:List AQ) (s:ByteArray):Cp l s<(l.length:Int):=by
 have:=YD s l 0
 rw[Nat.zero_add]at this
 exact this
def k8:Ae:={ ins:=[EH,IK,T3,T9],pre:=fun(d,l,t,_,_)=>xE d l∧((0:Int)≤t∧t<(List.length l:Int))∧List.length l≤256∧(∀x∈(l:List AQ),x.2.length≤64),out:=fun(d,l,t,s,_)=>[.p A7 (R9 d l t s).1,.p .bool (R9 d l t s).2] }
theorem pW:Ag Tryz.prog 86 k8:=by
 refine AR Tryz.func86 (by kernel_rfl) rfl Tryz.ntmps86 (by decide) (by kernel_rfl) (AF [(123,OX),(96,K7),(94,UI),(100,Xj)]) (AD Xr (AD UK (AD gN (AD Ze AH)))) ?_
 rintro w0 O0 ⟨d,l,t,s,u⟩ hc ⟨⟨hdl,hall⟩,-⟩ ⟨hnum,ht,hl,hx⟩
 have hl:l.length≤256:=hl
 have hx2:∀x∈(l:List AQ),x.2.length≤100000:=fun x h=>Nat.le_trans (hx x h) (by decide)
 have hlp:0<List.length l:=Int.ofNat_lt.1 (Int.lt_of_le_of_lt ht.1 ht.2)
 simp only[AO]at hdl
 simp only[k8,AN]
 repeat'(first|exact trivial|refine eS rfl ?_|refine AB ?_|refine rX [0,1,2,3,8,9,10,11,12,13,14,22,48] hc ?_ ?_|refine rC ?_ ?_<;>intro AA<;>try(cases AA;done))
 ·exact Int.ofNat_lt.2 hlp
 ·have hif:R9 d l t s=d.foldl (TK l t s) ((l.getD 0 c0).2,false):=rfl
  have hc0:(l.getD 0 c0).2.length≤64:=hx _ (AE l c0 hlp)
  have hc1:(List.getD l 0 (ByteArray.empty,[])).2=(l.getD 0 c0).2:=rfl
  rw[hc1]
  generalize (l.getD 0 c0).2=b0 at *
  refine AK (ι:={i:Nat//i≤d.length}) (fun i=>⟨[(0,.p EH d),(1,.p IK l),(2,.p T3 t),(3,.p T9 s),(10,.p .bool ((d.take i.1).foldl (TK l t s) (b0,false)).2),(11,.p A7 ((d.take i.1).foldl (TK l t s) (b0,false)).1),(12,.p (.int .i64) (i.1:Int))],[]⟩) (fun i=>d.length-i.1) ⟨0,Nat.zero_le _⟩ (AC [] rfl rfl ?_ ?_) (fun i=>?_)
  ·first|exact eN|refine eM ?_
  ·first|exact eN|refine eM ?_
   exact⟨rfl,rfl⟩
  ·obtain⟨i,hi⟩:=i
   have hi:i≤d.length:=hi
   have hlen:=SA (l:=l) t s (d.take i) (o:=(b0,false)) hc0
   have hs:=fun h:i<d.length=>EC (TK l t s) d d0 (b0,false) h
   have hnx:=fun h:i<d.length=>hnum.1 _ (AE d d0 h)
   have hnv:=fun(h:i<d.length) (g:(FT (d.getD i d0) s).2=true)=>hnum.value (AE d d0 h) g
   have hia:∀o x,TK l t s o x=(if (!(FT x s).2||!Lc l (Cp l x.1) t)=true then o else (FE o.1 (l.getD (Cp l (FT x s).1).toNat c0).2,true)):=fun _ _=>rfl
   generalize ho:(d.take i).foldl (TK l t s) (b0,false)=o at *
   simp only
   repeat'(first|exact trivial|refine eS rfl ?_|refine AB ?_|refine rX [0,1,2,3,8,9,10,11,12,13,14,22,48] hc ?_ ?_|refine rC ?_ ?_<;>intro AA<;>try(cases AA;done))
   ·exact AA
   ·have hi2:i<d.length:=Int.ofNat_lt.1 AA
    exact⟨fun _=>AA,fun _=>⟨⟨hnx hi2,Pm _ _⟩,ht,hx2⟩⟩
   ·exact eV
   ·have hi2:i<d.length:=Int.ofNat_lt.1 (by assumption)
    have e:=hs hi2
    rw[hia,if_pos (by rw[Bool.or_eq_true,Bool.not_eq_true',Bool.not_eq_true'];exact AA)]at e
    refine⟨⟨i+1,by omega⟩,by simp only;omega,AC [] rfl rfl ?_ ?_⟩
    ·first|exact eN|refine eM ?_
    ·first|exact eN|refine eM ?_
     rw[e]
     exact⟨rfl,rfl⟩
   ·have hi2:i<d.length:=Int.ofNat_lt.1 (by assumption)
    exact⟨⟨hnv hi2 AA.1,Pm _ _⟩,Nat.le_trans hlen (by decide)⟩
   ·exact eV
   ·have hi2:i<d.length:=Int.ofNat_lt.1 (by assumption)
    have e:=hs hi2
    have hneg:¬(!(FT (d.getD i d0) s).2||!Lc l (Cp l (d.getD i d0).1) t)=true:=by
     rw[Bool.or_eq_true,Bool.not_eq_true',Bool.not_eq_true']
     rintro (h|h)
     ·rw[show (FT (d.getD i d0) s).2=true from AA.1]at h;cases h
     ·rw[show Lc l (Cp l (d.getD i d0).1) t=true from AA.2]at h;cases h
    rw[hia,if_neg hneg]at e
    refine⟨⟨i+1,by omega⟩,by simp only;omega,AC [] rfl rfl ?_ ?_⟩
    ·first|exact eN|refine eM ?_
    ·first|exact eN|refine eM ?_
     rw[e]
     exact⟨rfl,rfl⟩
   ·have hi2:d.take i=d:=List.take_of_length_le (Int.ofNat_le.1 AA)
    rw[hi2]at ho
    rw[ho]at hif
    exact AG hc [.tmp 8,.tmp 9] rfl (.inl rfl) (by simp) (by rw[hif];first|exact eR|refine Al ?_)
end
/- Plain: what passes grammarlabref04.Codes and the checks of grammarlabref05. -/
section
theorem Pn:∀ {l:List AJ},J8 l=0→∀x∈l,x.2.1.length≤256∧x.2.2.length≤256
 | [],_,x,hx=>by cases hx
 | y :: l,h,x,hx=>by
  simp only[J8]at h
  split at h
  ·cases h
  ·rename_i h1
   rcases List.mem_cons.1 hx with rfl|hx
   ·exact⟨by omega,by omega⟩
   ·exact Pn h x hx
theorem I4 {d:List AJ} (h:BE d=0):∀x∈d,x.2.1.length≤256∧x.2.2.length≤256:=by
 have h1:EM d=0:=by
  unfold BE at h
  split at h
  ·rename_i h1;exact absurd h h1
  ·rename_i h1;exact Classical.byContradiction h1
 unfold EM at h1
 split at h1
 ·cases h1
 ·exact Pn h1
theorem ML {d:List AJ} (h:BE d=0):∀x∈Au d,x.2.length≤64:=by
 intro x hx
 obtain⟨-,h2,-⟩:=A3 h
 obtain⟨b,hb,rfl⟩:=DP.1 hx
 exact NQ (MK h2) b hb
theorem YE {all:List ByteArray} {l:List FV}:∀ {r:List FV} {k:Nat},mQ all l k r=0→∀y∈r,AY all y.2=true
 | [],_,_,y,hy=>by cases hy
 | x :: r,k,h,y,hy=>by
  simp only[mQ]at h
  split at h
  ·cases h
  ·split at h
   ·cases h
   ·split at h
    ·cases h
    ·rename_i h3
     rcases List.mem_cons.1 hy with rfl|hy
     ·simpa using h3
     ·exact YE h y hy
theorem US {all:List ByteArray}:∀ {l:List AJ},Vx all l=0→∀x∈l,∀y∈x.2.2,AY all y.2=true
 | [],_,x,hx=>by cases hx
 | z :: l,h,x,hx=>by
  simp only[Vx]at h
  split at h
  ·rename_i h1;exact absurd h h1
  ·rename_i h1
   rcases List.mem_cons.1 hx with rfl|hx
   ·exact YE (Classical.byContradiction h1)
   ·exact US h x hx
theorem gU {d:List AJ} (h:BE d=0) (h2:KI d=0):xE d (Au d) :=
 ⟨fun x hx=>Pk h hx,fun x hx y hy=>Pj h (US h2 x hx y hy)⟩
end
/- Plain: the codes of a hierarchy are closed under intersections. -/
section
theorem SB (l:List (List Int)) (i k:Nat):l <+: F3 l i k:=by
 unfold F3
 split
 ·exact List.prefix_append _ _
 ·exact List.prefix_refl _
theorem SC (i:Nat):∀(n k:Nat) (l:List (List Int)),l <+: F4 i n k l
 | 0,_,l=>List.prefix_refl l
 | n+1,k,l=>by
  unfold F4
  split
  ·exact(SB l i k).trans (SC i n (k+1) _)
  ·exact List.prefix_refl l
theorem SD:∀(n i:Nat) (l:List (List Int)),l <+: Hq n i l
 | 0,_,l=>List.prefix_refl l
 | n+1,i,l=>by
  unfold Hq
  split
  ·exact(SC i i 0 l).trans (SD n (i+1) _)
  ·exact List.prefix_refl l
theorem NS {l m:List (List Int)} (h:l <+: m) {k:Nat} (hk:k<l.length):m.getD k []=l.getD k []:=by
 obtain⟨t,rfl⟩:=h
 simp only[List.getD_eq_getElem?_getD]
 rw[List.getElem?_append_left hk]
def JP (l:List (List Int)) (q p:Nat):Prop:=FE (l.getD q []) (l.getD p [])=[]∨FE (l.getD q []) (l.getD p [])∈l
theorem JP.pre {l m:List (List Int)} (h:l <+: m) {q p:Nat} (hq:q<l.length) (hp:p<l.length) (hm:JP l q p):JP m q p:=by
 unfold JP at hm ⊢
 rw[NS h hq,NS h hp]
 rcases hm with hm|hm
 ·exact .inl hm
 ·exact .inr (h.subset hm)
theorem xF {l:List (List Int)} {b:List Int} (h:Zh l b=true):b∈l:=by
 obtain⟨x,hx,e⟩:=List.any_eq_true.1 h
 have:x=b:=by simpa[Gd] using e
 rw[←this]
 exact hx
theorem Zu {l:List (List Int)} {i k:Nat} (hi:i<l.length) (hk:k<l.length):JP (F3 l i k) i k:=by
 have hp:=SB l i k
 unfold JP
 rw[NS hp hi,NS hp hk]
 unfold F3
 split
 ·right;simp
 ·rename_i hc
  rw[Bool.and_eq_true,decide_eq_true_eq,Bool.not_eq_true']at hc
  by_cases h0:0<((FE (l.getD i []) (l.getD k [])).length:Int)
  ·right
   cases hh:Zh l (FE (l.getD i []) (l.getD k [])) with
   | true=>exact xF hh
   | false=>exact absurd ⟨h0,hh⟩ hc
  ·left
   exact List.eq_nil_of_length_eq_zero (by omega)
theorem SE {i:Nat}:∀ {n k:Nat} {l:List (List Int)},n+k=i→i<l.length→(F4 i n k l).length≤256→(∀p,p<k→JP l i p)→∀p,p<i→JP (F4 i n k l) i p
 | 0,k,l,hn,hi,hl,h=>fun p hp=>h p (by omega)
 | n+1,k,l,hn,hi,hl,h=>by
  unfold F4 at hl ⊢
  split at hl
  ·rename_i hc
   rw[if_pos hc]
   have hp:=SB l i k
   refine SE (by omega) (Nat.lt_of_lt_of_le hi hp.length_le) hl fun p hpk=>?_
   by_cases e:p=k
   ·subst e
    exact Zu hi (by omega)
   ·exact(h p (by omega)).pre hp hi (by omega)
  ·rename_i hc
   exact absurd (by omega:l.length≤256) hc
theorem SF:∀ {n i:Nat} {l:List (List Int)},257≤n+i→(Hq n i l).length≤256→i≤l.length→(∀q p,p<q→q<i→JP l q p)→∀q p,p<q→q<(Hq n i l).length→JP (Hq n i l) q p
 | 0,i,l,hn,hl,hil,h=>fun q p hpq hq=>by
  have hl':l.length≤256:=hl
  omega
 | n+1,i,l,hn,hl,hil,h=>by
  unfold Hq at hl ⊢
  split at hl
  ·rename_i hc
   rw[if_pos hc]
   have hp:=SC i i 0 l
   have hpl:=hp.length_le
   have hgl:=(SD n (i+1) (F4 i i 0 l)).length_le
   refine SF (by omega) hl (by omega) fun q p hpq hq=>?_
   by_cases e:q=i
   ·subst e
    exact SE (by omega) hc.1 (by omega) (fun p hp=>by omega) p hpq
   ·exact(h q p hpq (by omega)).pre hp (by omega) (by omega)
  ·rename_i hc
   rw[if_neg hc]
   intro q p hpq hq
   exact h q p hpq (by
    refine Classical.byContradiction fun hh=>hc ⟨by omega,hl⟩)
theorem Vz {c:List (List Int)} (hl:(Ay c).length≤256):∀q p,p<q→q<(Ay c).length→JP (Ay c) q p :=
 SF (by omega) hl (Nat.zero_le _) (fun q p _ h=>by omega)
/-! Bits -/
theorem pX (a b:List Int) (k:Nat):(FE a b).getD k 0=if k<a.length then Bm .and .u64 (a.getD k 0) (b.getD k 0) else 0:=by
 unfold FE
 rw[NL]
 split
 ·rename_i h;exact K8 .and a b h
 ·rename_i h
  rw[List.getD_eq_getElem?_getD,List.getElem?_eq_none (by rw[Dx];omega)]
  rfl
theorem Fq {b:List Int} {k:Nat} (h:¬k<b.length):b.getD k 0=0:=by
 rw[List.getD_eq_getElem?_getD,List.getElem?_eq_none (by omega)];rfl
theorem Qb {a b:List Int} (ha:HW a) (hb:HW b) (i:Nat):BK (FE a b) i=(BK a i&&BK b i):=by
 unfold BK
 rw[pX]
 split
 ·rw[Gk (A4 ha _) (A4 hb _),Int.toNat_natCast,Nat.testBit_and]
 ·rename_i h
  rw[Fq h]
  simp
theorem V0 {a b:List Int} (ha:HW a) (hb:HW b):HW (FE a b):=by
 refine ME fun x hx=>?_
 unfold QQX at hx
 obtain⟨i,-,rfl⟩:=List.mem_map.1 hx
 rw[QQQ,Gk (A4 ha _) (A4 hb _)]
 have h1:=A4 ha i
 have h2:(a.getD i 0).toNat &&& (b.getD i 0).toNat≤(a.getD i 0).toNat:=Nat.and_le_left
 have h3:=h1.1
 have h4:=h1.2
 exact⟨Int.natCast_nonneg _,by omega⟩
theorem Od (b:List Int):∀n,CN b n=0∨b.getD (CN b n-1) 0≠0
 | 0=>.inl rfl
 | n+1=>by
  unfold CN
  split
  ·exact Od b n
  ·rename_i h
   right
   simpa using h
theorem xG {n:Nat} (h0:n≠0) (h1:n<18446744073709551616):∃r,r<64∧n.testBit r=true:=by
 refine Classical.byContradiction fun hc=>h0 ?_
 refine Nat.eq_of_testBit_eq fun r=>?_
 rw[Nat.zero_testBit]
 by_cases hr:r<64
 ·cases hb:n.testBit r with
  | false=>rfl
  | true=>exact absurd ⟨r,hr,hb⟩ hc
 ·have e:(18446744073709551616:Nat)=2 ^ 64:=by decide
  rw[e]at h1
  exact Nat.testBit_lt_two_pow (Nat.lt_of_lt_of_le h1 (Nat.pow_le_pow_right (by decide) (by omega)))
theorem pY {b:List Int} (hb:HW b) {k:Nat} (h:b.getD k 0≠0):∃i,BK b i=true:=by
 have hu:=A4 hb k
 have h1:=hu.1
 have h2:=hu.2
 obtain⟨r,hr,ht⟩:=xG (n:=(b.getD k 0).toNat) (by omega) (by omega)
 refine⟨64*k+r,?_⟩
 unfold BK
 rw[show (64*k+r) / 64=k by omega,show (64*k+r) % 64=r by omega]
 exact ht
theorem Zv {b:List Int} (hb:HW b) (h:BB b≠[]):∃i,BK b i=true:=by
 rcases Od b b.length with h1|h1
 ·exact absurd (by unfold BB;rw[h1];rfl) h
 ·exact pY hb h1
theorem UT {a b:List Int} (ha:HW a) (hb:HW b) (h:∀i,BK a i=true→BK b i=true) (k:Nat):Bm .andNot .u64 (a.getD k 0) (b.getD k 0)=0:=by
 rw[OZ]
 have:(BitVec.ofInt 64 (a.getD k 0) &&& ~~~BitVec.ofInt 64 (b.getD k 0))=0#64:=by
  apply BitVec.eq_of_getLsbD_eq
  intro r hr
  rw[BitVec.getLsbD_and,BitVec.getLsbD_not,←BitVec.testBit_toNat,←BitVec.testBit_toNat,Er (A4 ha k),Er (A4 hb k)]
  have hk:=h (64*k+r)
  unfold BK at hk
  rw[show (64*k+r) / 64=k by omega,show (64*k+r) % 64=r by omega]at hk
  cases hx:(a.getD k 0).toNat.testBit r with
  | false=>simp
  | true=>rw[hk hx];simp
 rw[this]
 rfl
theorem Zw {a b:List Int} (ha:HW a) (hb:HW b):Eb a b=true↔∀i,BK a i=true→BK b i=true:=by
 constructor
 ·exact fun h i hi=>KG ha hb h hi
 ·intro h
  unfold Eb OT BB
  have h1:CN (QQX .andNot a b a.length) (QQX .andNot a b a.length).length=0:=by
   rw[Dx]
   exact Oa fun k hk=>by rw[K8 _ _ _ hk];exact UT ha hb h k
  rw[h1]
  rfl
end
/- Functions of grammarlabref05: Check. -/
section
attribute [local go_sem] Hr KE Vy Oc k8
def MM (d:List AJ) (l:List AQ) (t:Nat) (s:ByteArray):Bool:=(R9 d l (t:Int) s).2&&((R9 d l (t:Int) s).1.length:Int)==0
def gV (d:List AJ) (l:List AQ) (f:List ByteArray) (t:Nat):Bool:=f.any (MM d l t)
def KJ (d:List AJ) (l:List AQ) (f:List ByteArray) (n:Nat):Bool:=(List.range n).any (gV d l f)
theorem YF (d:List AJ) (l:List AQ) (f:List ByteArray) (n:Nat):KJ d l f (n+1)=(KJ d l f n||gV d l f n):=by
 unfold KJ
 rw[List.range_succ,List.any_append]
 simp
def BH (d:List AJ):Int :=
 if (Bp d).2≠0 then (Bp d).2 else if 64<(DN d).length then 7 else if KI d≠0 then KI d else
 if ((DN d).all fun s=>(FX d s).2)=false then 10 else if KJ d (Bp d).1 (DN d) (Bp d).1.length=true then 11 else 0
def LC:Ae:={ ins:=[EH],pre:=fun _=>True,out:=fun(d,_)=>[.p XZ (BH d)] }
theorem UU:Ag Tryz.prog 84 LC:=by
 refine AR Tryz.func84 (by kernel_rfl) rfl Tryz.ntmps84 (by decide) (by kernel_rfl) (AF [(59,Hr),(85,KE),(121,Vy),(95,Oc),(86,k8)]) (AD NR (AD Rz (AD pU (AD YB (AD pW AH))))) ?_
 rintro w0 O0 ⟨d,u⟩ hc - -
 simp only[LC,AN]
 repeat'(first|exact trivial|refine eS rfl ?_|refine AB ?_|refine rX [0,2,3,4,5,6,7,9,10,11,12,13,20,26,30,35,48,52,58,77] hc ?_ ?_|refine rC ?_ ?_<;>intro AA<;>try(cases AA;done))
 ·have h1:BH d=(Bp d).2:=by unfold BH;rw[if_pos AA]
  exact AG hc [.tmp 2] rfl (.inl rfl) (by simp) (by rw[h1];first|exact eR|refine Al ?_)
 ·have hz:(Bp d).2=0:=by simpa using AA
  obtain⟨h3,-,-⟩:=Bc hz
  obtain⟨-,hd,-⟩:=A3 h3
  exact⟨hd,fun x hx=>(I4 h3 x hx).2⟩
 ·have hz:(Bp d).2=0:=by simpa using ‹((Bp d).2 != 0)=false›
  have h1:BH d=7:=by
   unfold BH
   rw[if_neg (by rw[hz];simp),if_pos (by omega)]
  exact AG hc [.tmp 2] rfl (.inl rfl) (by simp) (by rw[h1];first|exact eR|refine Al ?_)
 ·have hz:(Bp d).2=0:=by simpa using ‹((Bp d).2 != 0)=false›
  obtain⟨h3,-,-⟩:=Bc hz
  exact(A3 h3).2.1
 ·have hz:(Bp d).2=0:=by simpa using ‹((Bp d).2 != 0)=false›
  have h1:BH d=KI d:=by
   unfold BH
   rw[if_neg (by rw[hz];simp),if_neg (by omega),if_pos AA]
  exact AG hc [.tmp 2] rfl (.inl rfl) (by simp) (by rw[h1];first|exact eR|refine Al ?_)
 ·have hz:(Bp d).2=0:=by simpa using ‹((Bp d).2 != 0)=false›
  have hdz:KI d=0:=by simpa using AA
  obtain⟨h3,hlen,hl⟩:=Bc hz
  obtain⟨hsup,hd,-⟩:=A3 h3
  have hnr:=gU h3 hdz
  have hwid:=ML h3
  have hpos:=xB h3
  have hll:(Au d).length≤256:=by rw[Gn];exact hlen
  have hc5:BH d=if ((DN d).all fun s=>(FX d s).2)=false then 10 else if KJ d (Bp d).1 (DN d) (Bp d).1.length=true then 11 else 0:=by
   unfold BH
   rw[if_neg (by rw[hz];simp),if_neg (by omega),if_neg (by rw[hdz];simp)]
  rw[hl]at hc5 ⊢
  generalize Au d=l at *
  generalize DN d=f at *
  refine AK (ι:={i:Nat//i≤f.length∧((f.take i).all fun s=>(FX d s).2)=true}) (fun i=>⟨[(0,.p EH d),(3,.p IK l),(5,.p Bl f),(7,.p (.int .i64) (i.1:Int))],[]⟩) (fun i=>f.length-i.1) ⟨0,Nat.zero_le _,rfl⟩ (AC [] rfl rfl ?_ ?_) (fun i=>?_)
  ·first|exact eN|refine eM ?_
  ·first|exact eN|refine eM ?_
  ·obtain⟨i,hi,hall⟩:=i
   have hstep:=fun h:i<f.length=>IL f ByteArray.empty (fun s=>(FX d s).2) h
   simp only
   repeat'(first|exact trivial|refine eS rfl ?_|refine AB ?_|refine rX [0,2,3,4,5,6,7,9,10,11,12,13,20,26,30,35,48,52,58,77] hc ?_ ?_|refine rC ?_ ?_<;>intro AA<;>try(cases AA;done))
   ·exact⟨AA,hsup,hd⟩
   ·have hi2:i<f.length:=Int.ofNat_lt.1 (by assumption)
    have h2:(f.all fun s=>(FX d s).2)=false:=by
     rw[Bool.eq_false_iff]
     intro h
     have:=List.all_eq_true.1 h _ (AE f ByteArray.empty hi2)
     rw[show (FX d (f.getD i ByteArray.empty)).2=false from AA]at this
     cases this
    rw[if_pos h2]at hc5
    exact AG hc [.tmp 2] rfl (.inl rfl) (by simp) (by rw[hc5];first|exact eR|refine Al ?_)
   ·omega
   ·have hi2:i<f.length:=Int.ofNat_lt.1 (by assumption)
    refine⟨⟨i+1,hi2,?_⟩,by simp only;omega,AC [] rfl rfl ?_ ?_⟩
    ·rw[hstep hi2,hall]
     exact AA
    ·first|exact eN|refine eM ?_
    ·first|exact eN|refine eM ?_
   ·have hi2:f.take i=f:=List.take_of_length_le (Int.ofNat_le.1 AA)
    rw[hi2]at hall
    rw[if_neg (by rw[hall];simp)]at hc5
    refine AK (ι:={t:Nat//t≤l.length∧KJ d l f t=false}) (fun t=>⟨[(0,.p EH d),(3,.p IK l),(5,.p Bl f),(10,.p (.int .i64) (t.1:Int))],[]⟩) (fun t=>l.length-t.1) ⟨0,Nat.zero_le _,rfl⟩ (AC [] rfl rfl ?_ ?_) (fun t=>?_)
    ·first|exact eN|refine eM ?_
    ·first|exact eN|refine eM ?_
    ·obtain⟨t,ht,hvb⟩:=t
     have hvs:=YF d l f t
     simp only
     repeat'(first|exact trivial|refine eS rfl ?_|refine AB ?_|refine rX [0,2,3,4,5,6,7,9,10,11,12,13,20,26,30,35,48,52,58,77] hc ?_ ?_|refine rC ?_ ?_<;>intro AA<;>try(cases AA;done))
     ·have htl:t<l.length:=Int.ofNat_lt.1 AA
      refine AK (ι:={k:Nat//k≤f.length∧(f.take k).any (MM d l t)=false}) (fun k=>⟨[(0,.p EH d),(3,.p IK l),(5,.p Bl f),(10,.p (.int .i64) (t:Int)),(11,.p (.int .i64) (k.1:Int))],[]⟩) (fun k=>f.length-k.1) ⟨0,Nat.zero_le _,rfl⟩ (AC [] rfl rfl ?_ ?_) (fun k=>?_)
      ·first|exact eN|refine eM ?_
      ·first|exact eN|refine eM ?_
      ·obtain⟨k,hk,hany⟩:=k
       have hst:=fun h:k<f.length=>K3 f ByteArray.empty (MM d l t) h
       simp only
       repeat'(first|exact trivial|refine eS rfl ?_|refine AB ?_|refine rX [0,2,3,4,5,6,7,9,10,11,12,13,20,26,30,35,48,52,58,77] hc ?_ ?_|refine rC ?_ ?_<;>intro AA<;>try(cases AA;done))
       ·exact⟨AA,hnr,by assumption,hll,hwid⟩
       ·have hk2:k<f.length:=Int.ofNat_lt.1 (by assumption)
        have hb:MM d l t (f.getD k ByteArray.empty)=true:=by
         unfold MM
         rw[Bool.and_eq_true,beq_iff_eq]
         exact AA
        have hB:KJ d l f l.length=true:=by
         unfold KJ
         rw[List.any_eq_true]
         exact⟨t,List.mem_range.2 htl,Fl f ByteArray.empty _ hk2 hb⟩
        rw[if_pos hB]at hc5
        exact AG hc [.tmp 2] rfl (.inl rfl) (by simp) (by rw[hc5];first|exact eR|refine Al ?_)
       ·omega
       ·have hk2:k<f.length:=Int.ofNat_lt.1 (by assumption)
        have hb:MM d l t (f.getD k ByteArray.empty)=false:=by
         rw[Bool.eq_false_iff]
         unfold MM
         intro h
         rw[Bool.and_eq_true,beq_iff_eq]at h
         exact AA h.1 h.2
        refine⟨⟨k+1,hk2,?_⟩,by simp only;omega,AC [] rfl rfl ?_ ?_⟩
        ·rw[hst hk2,hany,hb]
         rfl
        ·first|exact eN|refine eM ?_
        ·first|exact eN|refine eM ?_
       ·omega
       ·have hk2:f.take k=f:=List.take_of_length_le (Int.ofNat_le.1 AA)
        rw[hk2]at hany
        refine⟨⟨t+1,htl,?_⟩,by simp only;omega,AC [] rfl rfl ?_ ?_⟩
        ·rw[hvs,hvb]
         exact hany
        ·first|exact eN|refine eM ?_
        ·first|exact eN|refine eM ?_
     ·have ht2:t=l.length:=by exact eV
      subst ht2
      rw[if_neg (by rw[hvb];simp)]at hc5
      exact AG hc [.tmp 2] rfl (.inl rfl) (by simp) (by rw[hc5];first|exact eR|refine Al ?_)
end
end Go.Proofs.YtmejfnhmgbhkmabGreat.Fw
