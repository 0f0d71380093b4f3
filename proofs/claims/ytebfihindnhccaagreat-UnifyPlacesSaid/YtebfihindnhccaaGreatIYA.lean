/- Contracts of the program's and the reference's functions, and the plain laws of what they compute: C1 C2 C9 C10 C11 C12 C13 C3 C4 C5 C6 C7 C8 C14 C15 C16 C17 C18 C19 C20 C21 C22 C23 N1 N2 C24 C25 N3 C26 C27 C28 C29 N4 N5 C30. -/
/- Functions of grammarlabref01: digit, upper, lower, part, named, Name, Feature. -/
import Derived.Test.YtebfihindnhccaaGreatIZJ
set_option linter.unusedVariables false
set_option linter.unusedSimpArgs false
namespace Go.Proofs.YtebfihindnhccaaGreat.Fw
open Go
attribute [local irreducible] Ev
attribute [local go_sem] Yx AN List.toList_toArray Bi evG evK Uc EU JT GK FY Fq Ni J4 B4 DB Le CK CZ frz cD GF DA A5 FL Bg AV.frz AV.frzs AV.drp AV.drps AV.names AV.namess aq GH J3 JL RG IE BS BV Ik Ef Ho Eg Hq Hp Hr R5 Na Gb JM FO EA R6 O9 tS Il Hs KS Ey EE RH CP EF El PA PB KT II JN Cn Cg E7 DZ G9 DX Em DY EH FQ CK CX RF O8 Mm GB IH IG KR MT Nf KV KY KW JQ QT KX JR Wn Nh Ng AV.trn AV.trns Dy CO Obj.trn I0 ZI Cp DK Co EI CY Eo Av lk Gm GG G0 zN cC Ud cF QR pH pI zR AV.cells Bx Ii NZ JP Nc CF MR Ty.cell1 Hn Ee DW Fm Ml Ex JK KQ QP GE Ga MM RE R3 KO JJ Wk Ya QQ MS Cl Ij RV.flat Ty.flat Ty.size St.add upd Ua BT Value.oneCell' KJ Ty.dflt Hm Ny HG OH List.take_succ_cons List.take_zero List.length_cons Y7 Y8 OG Ix Kn Gy Iy uP FZ Lo Lp Lq Lr PK PM Ls Hw SQ Option.map_some Option.map_none Option.bind_some Option.getD_some Option.getD_none Option.isNone_none Option.isNone_some Bool.and_true Bool.true_and Bool.and_false Bool.false_and Bool.not_true Bool.not_false if_true if_false List.length_cons List.length_nil and_true true_and and_self List.all_cons List.all_nil List.append_nil List.nil_append List.cons_append List.getElem?_cons_zero List.getElem?_cons_succ List.getElem?_nil List.map_cons List.map_nil List.set_cons_zero List.set_cons_succ List.isEmpty_nil List.isEmpty_cons decide_true decide_false beq_self_eq_true bne_self_eq_false Nat.zero_add Nat.add_zero Nat.sub_zero Int.toNat_natCast Int.toNat_zero Int.toNat_one List.take_length List.length_append List.length_singleton true_or or_true or_self false_or or_false Ty.agg.injEq Ty.slice.injEq Ty.prod.injEq Ty.int.injEq Option.some.injEq beq_iff_eq Kl evMG evMQ uS HI Kj Bm Iw GL N9 Iu HH Hx Ja J8 Mv MZ Mw RL Kk OB OC Iv Aa Ak Op.operands Call.operands List.filterMap_cons List.filterMap_nil List.append_eq Bool.cond_false_right Bool.cond_true_left cond_true cond_false implies_true decide_eq_true_eq beq_true beq_false Bool.or_true Bool.or_false Bool.true_or Bool.false_or Option.isSome_some FM Lf Ep G7 Wm Nb FP Fy Fx Ht G8 JO KU Ue cE Ub inB JS QQX GC Im BG Y9 List.drop_zero Db HJ XI B9 Je B7 AV.fgt AV.fgts Obj.fgt Au Aj Aa Ct Hk BF GM List.any_cons List.any_nil dC ZC XJ ZD Kp PR qs List.flatMap_cons List.flatMap_nil List.cons_append tn XM I1 List.take_succ_cons List.drop_succ_cons XQ HN Bh gX Lx Bv CG Ae FX JZ BD FW F2 HF Qj
attribute [local go_sem] ty1 ty2 ty3 ty4 ty5 ty9 A0p A0q A0r A0s A0t A0u A0v A0w A0x A0y A0z A0A A0B A0C A0D A0E A0F A0G A0H A0I A0J A0K A0L A0M A0N A0O A0P A0Q A0R A0S A0T A0U A0V A0W A0X A0Y A0Z A10 A11 A12 A13 A14 A15 A16 A17 A18 A19 A1a A1b A1c A1d A1e A1f A1g A1h A1i A1j A1k A1l A1m A1n A1o A1p A1q A1r A1s A1t A1u A1v A1w A1x A1y A1z A1A A1B A1C A1D A1E hD hH hZ iA iB iC iD iE iG iH iI iJ iK iL iM iO iP iQ iR iT iU iV iW iX iY iZ i3 i4 i5 i6 i7 i8 i9 jA jB jC jD jE jF jG jH jI jJ jK jL jM jN jO jP jQ jR jS jT jU jV jW jX jY jZ j3 j4 j5 j6 j7 j8 j9 kA kB kC kD kE kF kG kH kI kJ kK kL kM kN kO kP kQ kR kS kT kU kV kW kX kY kZ k4 k5 k6 k7 k8 k9 lA lB lC lD lE lF lG lH lI lJ lK lL lM lN lO lQ lR lS lU lV lW lX lY lZ l5 l6 l7 l8 l9 mA mB mC mD mE mF mG mH mI mJ mK mL mM mN mO mP mQ mR mS mT mU mV mW mX mY mZ m5 m6 m7 m8 m9 nA nB nC nD nE nF nG nH nI nJ nK
set_option maxRecDepth 100000
set_option maxHeartbeats 4000000
section
def IU (a b c:Int):Bool:=decide (a≤c)&&decide (c≤b)
def Su:Af:={ ins:=[.int .u8],pre:=fun _=>True,out:=fun(c,_)=>[.p .bool (IU 48 57 c)] }
attribute [local go_sem] Su
def XT:Af:={ ins:=[.int .u8],pre:=fun _=>True,out:=fun(c,_)=>[.p .bool (IU 65 90 c)] }
attribute [local go_sem] XT
def XU:Af:={ ins:=[.int .u8],pre:=fun _=>True,out:=fun(c,_)=>[.p .bool (IU 97 122 c)] }
attribute [local go_sem] XU
theorem ZU:Al Tryz.prog 225 Su:=by
 refine AU Tryz.func225 (by kernel_rfl) rfl Tryz.ntmps225 (by decide) (by kernel_rfl) (AG []) AJ ?_
 rintro w0 O0 ⟨c,u⟩ hc - -
 simp only[Su,AN]
 repeat'(first|exact trivial|refine eS rfl ?_|refine AB ?_|refine rX [0,2] hc ?_ ?_|refine rC ?_ ?_<;>intro AA<;>try(cases AA;done))
 exact AH hc [.tmp 2] rfl (.inl rfl) (by simp) (by unfold IU;first|exact eR|refine Aw ?_)
theorem v8:Al Tryz.prog 230 XT:=by
 refine AU Tryz.func230 (by kernel_rfl) rfl Tryz.ntmps230 (by decide) (by kernel_rfl) (AG []) AJ ?_
 rintro w0 O0 ⟨c,u⟩ hc - -
 simp only[XT,AN]
 repeat'(first|exact trivial|refine eS rfl ?_|refine AB ?_|refine rX [0,2] hc ?_ ?_|refine rC ?_ ?_<;>intro AA<;>try(cases AA;done))
 exact AH hc [.tmp 2] rfl (.inl rfl) (by simp) (by unfold IU;first|exact eR|refine Aw ?_)
theorem v9:Al Tryz.prog 231 XU:=by
 refine AU Tryz.func231 (by kernel_rfl) rfl Tryz.ntmps231 (by decide) (by kernel_rfl) (AG []) AJ ?_
 rintro w0 O0 ⟨c,u⟩ hc - -
 simp only[XU,AN]
 repeat'(first|exact trivial|refine eS rfl ?_|refine AB ?_|refine rX [0,2] hc ?_ ?_|refine rC ?_ ?_<;>intro AA<;>try(cases AA;done))
 exact AH hc [.tmp 2] rfl (.inl rfl) (by simp) (by unfold IU;first|exact eR|refine Aw ?_)
def Sv (c:Int) (big:Bool):Bool:=IU 48 57 c||c==45||big&&IU 65 90 c||!big&&IU 97 122 c
def nN:Af:={ ins:=[.int .u8,.bool],pre:=fun _=>True,out:=fun(c,b,_)=>[.p .bool (Sv c b)] }
attribute [local go_sem] nN
theorem A1G:Al Tryz.prog 226 nN:=by
 refine AU Tryz.func226 (by kernel_rfl) rfl Tryz.ntmps226 (by decide) (by kernel_rfl) (AG [(225,Su),(230,XT),(231,XU)]) (AF ZU (AF v8 (AF v9 AJ))) ?_
 rintro w0 O0 ⟨c,b,u⟩ hc - -
 simp only[nN,AN]
 repeat'(first|exact trivial|refine eS rfl ?_|refine AB ?_|refine rX [0,1,4] hc ?_ ?_|refine rC ?_ ?_<;>intro AA<;>try(cases AA;done))
 exact AH hc [.tmp 4] rfl (.inl rfl) (by simp) (by unfold Sv;first|exact eR|refine Aw ?_)
abbrev chr (s:ByteArray) (i:Nat):Int:=((s.data.getD i 0).toNat:Int)
def PW (s:ByteArray):Bool:=decide ((s.size:Int)<1)||decide (32<(s.size:Int))||IU 48 57 (chr s 0)||chr s 0==45
def Eh (s:ByteArray) (big:Bool):Bool:=!PW s&&(List.range s.size).all fun i=>Sv (chr s i) big
def Sw:Af:={ ins:=[T9,.bool],pre:=fun _=>True,out:=fun(s,b,_)=>[.p .bool (Eh s b)] }
attribute [local go_sem] Sw
theorem ZV:Al Tryz.prog 216 Sw:=by
 refine AU Tryz.func216 (by kernel_rfl) rfl Tryz.ntmps216 (by decide) (by kernel_rfl) (AG [(225,Su),(226,nN)]) (AF ZU (AF A1G AJ)) ?_
 rintro w0 O0 ⟨s,b,u⟩ hc - -
 simp only[Sw,AN]
 repeat'(first|exact trivial|refine eS rfl ?_|refine AB ?_|refine rX [0,1,4,5,23,27,35] hc ?_ ?_|refine rC ?_ ?_<;>intro AA<;>try(cases AA;done))
 ·constructor
  ·intro h
   simp only[Bool.not_eq_true',Bool.or_eq_false_iff,decide_eq_false_iff_not]at h
   have:1≤(s.size:Int):=by omega
   exact this
  ·intro h
   simp only[Bool.not_eq_true',Bool.or_eq_false_iff,decide_eq_false_iff_not]at h
   have:1≤(s.size:Int):=by omega
   exact this
 ·have h1:PW s=true:=by
   unfold PW chr
   simp only[Bool.or_eq_true,decide_eq_true_eq,beq_iff_eq]
   exact AA
  have h2:Eh s b=false:=by unfold Eh;rw[h1];rfl
  exact AH hc [.tmp 4] rfl (.inl rfl) (by simp) (by rw[h2];first|exact eR|refine Aw ?_)
 ·have h1:PW s=false:=by
   unfold PW chr
   simp only[Bool.or_eq_false_iff,decide_eq_false_iff_not,beq_eq_false_iff_ne]
   exact⟨⟨⟨by omega,by omega⟩,AA.1.2⟩,AA.2⟩
  have hsz:s.size≤32:=by omega
  refine AL (ι:={k:Nat//k≤s.size∧((List.range k).all fun i=>Sv (chr s i) b)=true}) (fun k=>⟨[(0,.p T9 s),(1,.p .bool b),(5,.p (.int .i64) (k.1:Int))],[]⟩) (fun k=>s.size-k.1) ⟨0,by simp⟩ (AC [] rfl rfl ?_ ?_) (fun k=>?_)
  ·first|exact eN|refine eM ?_
  ·first|exact eN|refine eM ?_
  ·obtain⟨k,hk,hall⟩:=k
   repeat'(first|exact trivial|refine eS rfl ?_|refine AB ?_|refine rX [0,1,4,5,23,27,35] hc ?_ ?_|refine rC ?_ ?_<;>intro AA<;>try(cases AA;done))
   ·exact AA
   ·have hk2:k<s.size:=by omega
    have h2:Eh s b=false:=by
     unfold Eh
     rw[Bool.and_eq_false_iff]
     refine .inr (Bool.eq_false_iff.2 fun h=>?_)
     have:=List.all_eq_true.1 h k (List.mem_range.2 hk2)
     rw[show Sv (chr s k) b=false from AA]at this
     cases this
    exact AH hc [.tmp 4] rfl (.inl rfl) (by simp) (by rw[h2];first|exact eR|refine Aw ?_)
   ·omega
   ·have hk2:k<s.size:=by omega
    refine⟨⟨k+1,by omega,?_⟩,by simp only;omega,AC [] rfl rfl ?_ ?_⟩
    ·rw[List.range_succ,List.all_append,hall]
     rw[Bool.true_and,List.all_cons,List.all_nil,Bool.and_true]
     exact AA
    ·first|exact eN|refine eM ?_
    ·first|exact eN|refine eM ?_
   ·have hk2:k=s.size:=by omega
    subst hk2
    have h2:Eh s b=true:=by unfold Eh;rw[h1,hall];rfl
    exact AH hc [.tmp 4] rfl (.inl rfl) (by simp) (by rw[h2];first|exact eR|refine Aw ?_)
def nP:Af:={ ins:=[T9],pre:=fun _=>True,out:=fun(s,_)=>[.p .bool (Eh s false)] }
def OP:Af:={ ins:=[T9],pre:=fun _=>True,out:=fun(s,_)=>[.p .bool (Eh s true)] }
theorem A1H:Al Tryz.prog 205 nP:=by
 refine AU Tryz.func205 (by kernel_rfl) rfl Tryz.ntmps205 (by decide) (by kernel_rfl) (AG [(216,Sw)]) (AF ZV AJ) ?_
 rintro w0 O0 ⟨s,u⟩ hc - -
 simp only[nP,AN]
 repeat'(first|exact trivial|refine eS rfl ?_|refine AB ?_|refine rX [0,2] hc ?_ ?_|refine rC ?_ ?_<;>intro AA<;>try(cases AA;done))
 exact AH hc [.tmp 2] rfl (.inl rfl) (by simp) (by first|exact eR|refine Aw ?_)
theorem dK:Al Tryz.prog 204 OP:=by
 refine AU Tryz.func204 (by kernel_rfl) rfl Tryz.ntmps204 (by decide) (by kernel_rfl) (AG [(216,Sw)]) (AF ZV AJ) ?_
 rintro w0 O0 ⟨s,u⟩ hc - -
 simp only[OP,AN]
 repeat'(first|exact trivial|refine eS rfl ?_|refine AB ?_|refine rX [0,2] hc ?_ ?_|refine rC ?_ ?_<;>intro AA<;>try(cases AA;done))
 exact AH hc [.tmp 2] rfl (.inl rfl) (by simp) (by first|exact eR|refine Aw ?_)
end
/- Functions of grammarlabref03: Among, find, Put. -/
section
theorem Ly {α:Type} (l:List α) (d:α) (p:α→Bool) {k:Nat} (h:k<l.length):(l.take (k+1)).any p=((l.take k).any p||p (l.getD k d)):=by
 rw[Ac l d h,List.any_append];simp
theorem GP {α:Type} (l:List α) (d:α) (p:α→Bool) {k:Nat} (h:k<l.length) (hp:p (l.getD k d)=true):l.any p=true :=
 List.any_eq_true.2 ⟨_,AD l d h,hp⟩
def Ad (l:List ByteArray) (s:ByteArray):Bool:=l.any fun x=>Ar x s
def D5:Af:={ ins:=[Bo,T9],pre:=fun _=>True,out:=fun(l,n,_)=>[.p .bool (Ad l n)],lend:=true }
attribute [local go_sem] D5
theorem GQ:Al Tryz.prog 183 D5:=by
 refine AU Tryz.func183 (by kernel_rfl) rfl Tryz.ntmps183 (by decide) (by kernel_rfl) (AG []) AJ ?_
 rintro w0 O0 ⟨l,n,u⟩ hc ⟨⟨hl,-⟩,-⟩ -
 simp only[AP]at hl
 simp only[D5,AN]
 repeat'(first|exact trivial|refine eS rfl ?_|refine AB ?_|refine rX [0,1,4,5,9,17] hc ?_ ?_|refine rC ?_ ?_<;>intro AA<;>try(cases AA;done))
 refine AL (ι:={k:Nat//k≤l.length∧(l.take k).any (fun x=>Ar x n)=false}) (fun k=>⟨[(0,.p Bo l),(1,.p T9 n),(5,.p (.int .i64) (k.1:Int))],[]⟩) (fun k=>l.length-k.1) ⟨0,by simp⟩ (AC [] rfl rfl ?_ ?_) (fun k=>?_)
 ·first|exact eN|refine eM ?_
 ·first|exact eN|refine eM ?_
 ·obtain⟨k,hk,hany⟩:=k
  repeat'(first|exact trivial|refine eS rfl ?_|refine AB ?_|refine rX [0,1,4,5,9,17] hc ?_ ?_|refine rC ?_ ?_<;>intro AA<;>try(cases AA;done))
  ·exact eV
  ·have hkl:k<l.length:=by exact eV
   have h1:Ad l n=true:=GP l ByteArray.empty _ hkl AA
   exact AH hc [.tmp 4] rfl (.inl rfl) (by simp) (by rw[h1];first|exact eR|refine Aw ?_)
  ·exact eV
  ·have hkl:k<l.length:=by exact eV
   refine⟨⟨k+1,by exact eV,?_⟩,by simp only;exact eV,AC [] rfl rfl ?_ ?_⟩
   ·rw[Ly l ByteArray.empty _ hkl,hany];exact AA
   ·first|exact eN|refine eM ?_
   ·first|exact eN|refine eM ?_
  ·have hk:l.take k=l:=List.take_of_length_le (by exact eV)
   rw[hk]at hany
   have h1:Ad l n=false:=hany
   exact AH hc [.tmp 4] rfl (.inl rfl) (by simp) (by rw[h1];first|exact eR|refine Aw ?_)
def tM (l:List ByteArray) (s:ByteArray):Nat:=(l.takeWhile fun x=>Gi x s).length
theorem wA {α:Type} (p:α→Bool) (d:α):∀(l:List α) (k:Nat),k≤(l.takeWhile p).length→((k<l.length∧p (l.getD k d)=true)↔k+1≤(l.takeWhile p).length)
 | [],k,h=>by simp
 | x :: l,k,h=>by
  by_cases hx:p x=true
  ·rw[List.takeWhile_cons,if_pos hx]at h ⊢
   cases k with
   | zero=>simp[hx]
   | succ k =>
    have:=wA p d l k (by simpa using h)
    simpa using this
  ·rw[List.takeWhile_cons,if_neg hx]at h ⊢
   have hk:k=0:=by simpa using h
   subst hk
   simp[hx]
theorem A2U {α:Type} (p:α→Bool) (l:List α):(l.takeWhile p).length≤l.length:=(List.takeWhile_sublist p).length_le
def D6 (l:List ByteArray) (s:ByteArray):List ByteArray :=
 if (decide (tM l s<l.length)&&Ar (l.getD (tM l s) ByteArray.empty) s)=true then l else l.take (tM l s)++[s]++l.drop (tM l s)
def M2:Af:={ ins:=[Bo,T9],pre:=fun(l,_,_)=>List.length l≤100000,out:=fun(l,n,_)=>[.p Bo (D6 l n)] }
attribute [local go_sem] M2
theorem PX:Al Tryz.prog 174 M2:=by
 refine AU Tryz.func174 (by kernel_rfl) rfl Tryz.ntmps174 (by decide) (by kernel_rfl) (AG []) AJ ?_
 rintro w0 O0 ⟨l,n,u⟩ hc-hl
 have hl:l.length≤100000:=hl
 simp only[M2,AN]
 repeat'(first|exact trivial|refine eS rfl ?_|refine AB ?_|refine rX [0,1,4,5,6,18,32] hc ?_ ?_|refine rC ?_ ?_<;>intro AA<;>try(cases AA;done))
 refine AL (ι:={k:Nat//k≤tM l n}) (fun k=>⟨[(0,.p Bo l),(1,.p T9 n),(5,.raw (.slice none 0 0)),(6,.p (.int .i64) (k.1:Int))],[]⟩) (fun k=>l.length-k.1) ⟨0,by simp⟩ (AC [] rfl rfl ?_ ?_) (fun k=>?_)
 ·first|exact eN|refine eM ?_
 ·first|exact eN|refine eM ?_
 ·obtain⟨k,hk⟩:=k
  have hle:=A2U (fun x=>Gi x n) l
  have htw:=wA (fun x=>Gi x n) ByteArray.empty l k hk
  simp only
  repeat'(first|exact trivial|refine eS rfl ?_|refine AB ?_|refine rX [0,1,4,5,6,18,32] hc ?_ ?_|refine rC ?_ ?_<;>intro AA<;>try(cases AA;done))
  ·exact fun h=>h
  ·have h1:k<l.length∧Gi (l.getD k ByteArray.empty) n=true:=⟨by exact eV,AA.2⟩
   exact eV
  ·have h1:k<l.length∧Gi (l.getD k ByteArray.empty) n=true:=⟨by exact eV,AA.2⟩
   refine⟨⟨k+1,htw.1 h1⟩,by simp only;omega,AC [] rfl rfl ?_ ?_⟩
   ·first|exact eN|refine eM ?_
   ·first|exact eN|refine eM ?_
  ·exact fun h=>h
  ·rename_i hend
   have hk2:k=tM l n:=by
    refine Nat.le_antisymm hk (Nat.le_of_not_lt fun h=>?_)
    have:=htw.2 h
    rw[hend (Int.ofNat_lt.2 this.1)]at this
    cases this.2
   have h2:D6 l n=l:=by
    unfold D6
    rw[←hk2,if_pos]
    rw[Bool.and_eq_true,decide_eq_true_eq]
    exact⟨Int.ofNat_lt.1 AA.1,AA.2⟩
   exact AH hc [.tmp 4] rfl (.inl rfl) (by simp) (by rw[h2];first|exact eR|refine Aw ?_)
  ·have h3:=List.length_take_le k l
   have h4:k≤l.length:=Nat.le_trans hk hle
   simp only[AP]
   exact⟨Int.ofNat_le.2 h4,by dsimp only[Ty.den]at *;omega⟩
  ·have h3:=List.length_take_le k l
   have h4:k≤l.length:=Nat.le_trans hk hle
   simp only[AP]
   dsimp only[Ty.den]at *
   omega
  ·have h3:=List.length_take_le k l
   have h4:k≤l.length:=Nat.le_trans hk hle
   have h5:(l.drop k).length≤l.length:=by rw[List.length_drop];omega
   simp only[AP]
   exact⟨Int.ofNat_le.2 h4,by dsimp only[Ty.den]at *;omega⟩
  ·rename_i hend
   have hk2:k=tM l n:=by
    refine Nat.le_antisymm hk (Nat.le_of_not_lt fun h=>?_)
    have:=htw.2 h
    rw[hend (Int.ofNat_lt.2 this.1)]at this
    cases this.2
   have h2:D6 l n=l.take k++[n]++l.drop k:=by
    unfold D6
    rw[←hk2,if_neg]
    rw[Bool.and_eq_true,decide_eq_true_eq]
    intro h
    rw[AA (Int.ofNat_lt.2 h.1)]at h
    cases h.2
   have h4:k≤l.length:=Nat.le_trans hk hle
   have hlen:(l.take k).length+1+(l.drop k).length=(l.take k++[n]++l.drop k).length:=by simp only[List.length_append,List.length_singleton]
   rw[hlen,←h2]
   refine Gr [38] ?_
   exact AH hc [.tmp 4] rfl (.inl rfl) (by simp) (by first|exact eR|refine Aw ?_)
end
/- Functions of grammarlabref02: word, Normal. -/
section
def Fs (b:List Int) (i:Int):Int:=if i<b.length then b.getD i.toNat 0 else 0
def Sx:Af:={ ins:=[BA,T3],pre:=fun(_,i,_)=>(0:Int)≤i,out:=fun(b,i,_)=>[.p OO (Fs b i)],lend:=true }
attribute [local go_sem] Sx
theorem nQ:Al Tryz.prog 191 Sx:=by
 refine AU Tryz.func191 (by kernel_rfl) rfl Tryz.ntmps191 (by decide) (by kernel_rfl) (AG []) AJ ?_
 rintro w0 O0 ⟨b,i,u⟩ hc-hi
 simp only[Sx,AN]
 repeat'(first|exact trivial|refine eS rfl ?_|refine AB ?_|refine rX [0,1,4,8] hc ?_ ?_|refine rC ?_ ?_<;>intro AA<;>try(cases AA;done))
 ·exact⟨hi,AA⟩
 ·have h1:Fs b i=b.getD i.toNat 0:=by unfold Fs;rw[if_pos AA]
  exact AH hc [.tmp 4] rfl (.inl rfl) (by simp) (by rw[h1];first|exact eR|refine Aw ?_)
 ·have h1:Fs b i=0:=by unfold Fs;rw[if_neg (Int.not_lt.2 AA)]
  exact AH hc [.tmp 4] rfl (.inl rfl) (by simp) (by rw[h1];first|exact eR|refine Aw ?_)
def Cc (b:List Int):Nat→Nat
 | 0=>0
 | n+1=>if b.getD n 0=0 then Cc b n else n+1
def BH (b:List Int):List Int:=b.take (Cc b b.length)
theorem Sy (b:List Int):∀n,Cc b n≤n
 | 0=>Nat.le_refl _
 | n+1=>by
  unfold Cc
  split
  ·exact Nat.le_succ_of_le (Sy b n)
  ·exact Nat.le_refl _
def Fa:Af:={ ins:=[BA],pre:=fun(b,_)=>List.length b≤100000,out:=fun(b,_)=>[.p BA (BH b)] }
attribute [local go_sem] Fa
theorem Lz:Al Tryz.prog 176 Fa:=by
 refine AU Tryz.func176 (by kernel_rfl) rfl Tryz.ntmps176 (by decide) (by kernel_rfl) (AG []) AJ ?_
 rintro w0 O0 ⟨b,u⟩ hc-hb
 have hb:b.length≤100000:=hb
 simp only[Fa,AN]
 repeat'(first|exact trivial|refine eS rfl ?_|refine AB ?_|refine rX [0,2,3,15] hc ?_ ?_|refine rC ?_ ?_<;>intro AA<;>try(cases AA;done))
 refine AL (ι:={n:Nat//n≤b.length∧Cc b n=Cc b b.length}) (fun n=>⟨[(0,.p BA b),(3,.p (.int .i64) (n.1:Int))],[]⟩) (fun n=>n.1) ⟨b.length,Nat.le_refl _,rfl⟩ (AC [] rfl rfl ?_ ?_) (fun n=>?_)
 ·first|exact eN|refine eM ?_
 ·first|exact eN|refine eM ?_
 ·obtain⟨n,hn,hg⟩:=n
  simp only
  repeat'(first|exact trivial|refine eS rfl ?_|refine AB ?_|refine rX [0,2,3,15] hc ?_ ?_|refine rC ?_ ?_<;>intro AA<;>try(cases AA;done))
  ·constructor
   ·exact eV
   ·intro h
    refine⟨?_,?_⟩<;>exact eV
  ·exact eV
  ·obtain⟨h1,h2⟩:=AA
   obtain⟨m,rfl⟩:∃m,n=m+1:=⟨n-1,by omega⟩
   have e:(((m+1:Nat):Int)-1)=(m:Int):=by omega
   rw[e]at h2
   have h2:b.getD m 0=0:=h2
   have hg2:Cc b m=Cc b b.length:=by
    rw[←hg]
    show _=if b.getD m 0=0 then Cc b m else m+1
    rw[if_pos h2]
   refine⟨⟨m,by omega,hg2⟩,by simp,AC [] rfl rfl ?_ ?_⟩
   ·first|exact eN|refine eM ?_
   ·simp only[e]
    first|exact eN|refine eM ?_
  ·have h3:=List.length_take_le n b
   simp only[AP]
   exact⟨Int.ofNat_le.2 hn,by dsimp only[Ty.den]at *;omega⟩
  ·have hend:Cc b n=n:=by
    cases n with
    | zero=>rfl
    | succ m =>
     have e:(((m+1:Nat):Int)-1)=(m:Int):=by omega
     rw[e]at AA
     have h2:=AA (by omega)
     have h2:¬b.getD m 0=0:=h2
     show (if b.getD m 0=0 then Cc b m else m+1)=m+1
     rw[if_neg h2]
   have h1:BH b=b.take n:=by unfold BH;rw[←hg,hend]
   rw[←h1]
   refine Gr [18] ?_
   exact AH hc [.tmp 2] rfl (.inl rfl) (by simp) (by first|exact eR|refine Aw ?_)
end
/- Functions of grammarlabref02: Has. -/
section
attribute [local go_sem] Sx Fa
def wB (w:Int) (r:Int):Bool:=CS .and .u64 (YZ .u64 w r) 1==1
def Sz (b:List Int) (i:Int):Bool:=if (decide (i<0)||decide ((b.length:Int)≤i.tdiv 64))=true then false else wB (b.getD (i.tdiv 64).toNat 0) (i.tmod 64)
def dL:Af:={ ins:=[BA,T3],pre:=fun _=>True,out:=fun(b,i,_)=>[.p .bool (Sz b i)],lend:=true }
theorem A3x {w:Int} (h0:0≤w) (r:Int):0≤YZ .u64 w r∧YZ .u64 w r≤w:=by
 unfold YZ
 have hp:(0:Int)<2 ^ (min r.toNat IntKind.u64.bits):=Int.pow_pos (by decide)
 rw[Int.fdiv_eq_ediv_of_nonneg _ (Int.le_of_lt hp)]
 exact⟨Int.ediv_nonneg h0 (Int.le_of_lt hp),Int.ediv_le_self _ h0⟩
theorem wC:Al Tryz.prog 187 dL:=by
 refine AU Tryz.func187 (by kernel_rfl) rfl Tryz.ntmps187 (by decide) (by kernel_rfl) (AG []) AJ ?_
 rintro w0 O0 ⟨b,i,u⟩ hc ⟨⟨hbl,hbe⟩,hik,-⟩ -
 have hik:Lc .i64 i:=hik
 rw[Ls]at hik
 have htd:0≤i→Int.tdiv i 64=i / 64∧Int.tmod i 64=i % 64:=fun h=>⟨Int.tdiv_eq_ediv_of_nonneg h,Int.tmod_eq_emod_of_nonneg h⟩
 simp only[dL,AN]
 repeat'(first|exact trivial|refine eS rfl ?_|refine AB ?_|refine rX [0,1,4,13] hc ?_ ?_|refine rC ?_ ?_<;>intro AA<;>try(cases AA;done))
 ·intro h
  have h0:0≤i:=by simpa using h
  obtain⟨e1,e2⟩:=htd h0
  rw[e1]
  refine⟨by decide,?_,?_⟩<;>exact eV
 ·have h1:Sz b i=false:=by
   unfold Sz
   rw[if_pos]
   rw[Bool.or_eq_true,decide_eq_true_eq,decide_eq_true_eq]
   exact AA
  exact AH hc [.tmp 4] rfl (.inl rfl) (by simp) (by rw[h1];first|exact eR|refine Aw ?_)
 ·obtain⟨h0,hlt⟩:=AA
  obtain⟨e1,e2⟩:=htd h0
  rw[e1]at hlt
  have hw:Lc .u64 (b.getD (i / 64).toNat 0):=hbe _ (AD b 0 (by exact eV))
  rw[Hw]at hw
  have hs:=A3x hw.1 (i % 64)
  rw[e1,e2]
  refine⟨⟨by decide,by exact eV,by exact eV⟩,⟨by exact eV,by exact eV⟩,⟨by decide,by exact eV,by exact eV⟩,⟨by exact eV,by exact eV⟩,by exact eV,hs.1,Int.le_trans hs.2 hw.2⟩
 ·have h1:Sz b i=wB (b.getD (i.tdiv 64).toNat 0) (i.tmod 64):=by
   unfold Sz
   rw[if_neg]
   rw[Bool.or_eq_true,decide_eq_true_eq,decide_eq_true_eq]
   rintro (h|h)<;>omega
  exact AH hc [.tmp 4] rfl (.inl rfl) (by simp) (by rw[h1];unfold wB;first|exact eR|refine Aw ?_)
end
/- Functions of grammarlabref02: And, Minus. -/
section
attribute [local go_sem] Sx Fa
def F4 (op:BinOp) (a b:List Int) (n:Nat):List Int:=(List.range n).map fun i=>CS op .u64 (a.getD i 0) (Fs b (i:Int))
theorem EL (op:BinOp) (a b:List Int) (n:Nat):(F4 op a b n).length=n:=by simp[F4]
theorem Vd (op:BinOp) (a b:List Int) (n:Nat):F4 op a b (n+1)=F4 op a b n++[CS op .u64 (a.getD n 0) (Fs b (n:Int))]:=by simp[F4,List.range_succ]
def Fb (a b:List Int):List Int:=BH (F4 .and a b a.length)
def ZW:Af:={ ins:=[BA,BA],pre:=fun(a,_,_)=>List.length a≤100000,out:=fun(a,b,_)=>[.p BA (Fb a b)] }
theorem dM:Al Tryz.prog 143 ZW:=by
 refine AU Tryz.func143 (by kernel_rfl) rfl Tryz.ntmps143 (by decide) (by kernel_rfl) (AG [(191,Sx),(176,Fa)]) (AF nQ (AF Lz AJ)) ?_
 rintro w0 O0 ⟨a,b,u⟩ hc-ha
 have ha:a.length≤100000:=ha
 simp only[ZW,AN]
 repeat'(first|exact trivial|refine eS rfl ?_|refine AB ?_|refine rX [0,1,4,5,6,10] hc ?_ ?_|refine rC ?_ ?_<;>intro AA<;>try(cases AA;done))
 refine AL (ι:={n:Nat//n≤a.length}) (fun n=>⟨[(0,.p BA a),(1,.p BA b),(5,.sr 23 OO 0 n.1),(6,.p (.int .i64) (n.1:Int))],[(23,.arr 209 OO (F4 .and a b n.1))]⟩) (fun n=>a.length-n.1) ⟨0,Nat.zero_le _⟩ (AC [(23,.nil)] rfl rfl ?_ ?_) (fun n=>?_)
 ·first|exact eN|refine eM ?_
  rfl
 ·first|exact eN|refine eM ?_
 ·obtain⟨n,hn⟩:=n
  have hz:=EL .and a b n
  have hs:=Vd .and a b n
  simp only
  repeat'(first|exact trivial|refine eS rfl ?_|refine AB ?_|refine rX [0,1,4,5,6,10] hc ?_ ?_|refine rC ?_ ?_<;>intro AA<;>try(cases AA;done))
  ·refine⟨AA,?_⟩
   simp only[AP]
   dsimp only[Ty.den]at *
   omega
  ·exact eV
  ·have hn2:n<a.length:=by exact eV
   refine⟨⟨n+1,by omega⟩,by simp only;omega,AC [(23,.nm 23)] rfl rfl ?_ ?_⟩
   ·simp only[hs]
    first|exact eN|refine eM ?_
    rw[List.take_of_length_le (by rw[hz];exact Nat.le_refl _)]
   ·first|exact eN|refine eM ?_
  ·have hn2:n=a.length:=by exact eV
   subst hn2
   refine Gr [23] ?_
   have ht:(F4 .and a b a.length).take a.length=F4 .and a b a.length:=List.take_of_length_le (by rw[EL];exact Nat.le_refl _)
   repeat'(first|exact trivial|refine eS rfl ?_|refine AB ?_|refine rX [0,1,4,5,6,10] hc ?_ ?_|refine rC ?_ ?_<;>intro AA<;>try(cases AA;done))
   ·rw[ht,EL];exact ha
   ·rw[ht]
    exact AH hc [.tmp 4] rfl (.inl rfl) (by simp) (by unfold Fb;first|exact eR|refine Aw ?_)
def PY (a b:List Int):List Int:=BH (F4 .andNot a b a.length)
def XV:Af:={ ins:=[BA,BA],pre:=fun(a,_,_)=>List.length a≤100000,out:=fun(a,b,_)=>[.p BA (PY a b)] }
attribute [local go_sem] XV
theorem wD:Al Tryz.prog 211 XV:=by
 refine AU Tryz.func211 (by kernel_rfl) rfl Tryz.ntmps211 (by decide) (by kernel_rfl) (AG [(191,Sx),(176,Fa)]) (AF nQ (AF Lz AJ)) ?_
 rintro w0 O0 ⟨a,b,u⟩ hc-ha
 have ha:a.length≤100000:=ha
 simp only[XV,AN]
 repeat'(first|exact trivial|refine eS rfl ?_|refine AB ?_|refine rX [0,1,4,5,6,10] hc ?_ ?_|refine rC ?_ ?_<;>intro AA<;>try(cases AA;done))
 refine AL (ι:={n:Nat//n≤a.length}) (fun n=>⟨[(0,.p BA a),(1,.p BA b),(5,.sr 23 OO 0 n.1),(6,.p (.int .i64) (n.1:Int))],[(23,.arr 209 OO (F4 .andNot a b n.1))]⟩) (fun n=>a.length-n.1) ⟨0,Nat.zero_le _⟩ (AC [(23,.nil)] rfl rfl ?_ ?_) (fun n=>?_)
 ·first|exact eN|refine eM ?_
  rfl
 ·first|exact eN|refine eM ?_
 ·obtain⟨n,hn⟩:=n
  have hz:=EL .andNot a b n
  have hs:=Vd .andNot a b n
  simp only
  repeat'(first|exact trivial|refine eS rfl ?_|refine AB ?_|refine rX [0,1,4,5,6,10] hc ?_ ?_|refine rC ?_ ?_<;>intro AA<;>try(cases AA;done))
  ·refine⟨AA,?_⟩
   simp only[AP]
   dsimp only[Ty.den]at *
   omega
  ·exact eV
  ·have hn2:n<a.length:=by exact eV
   refine⟨⟨n+1,by omega⟩,by simp only;omega,AC [(23,.nm 23)] rfl rfl ?_ ?_⟩
   ·simp only[hs]
    first|exact eN|refine eM ?_
    rw[List.take_of_length_le (by rw[hz];exact Nat.le_refl _)]
   ·first|exact eN|refine eM ?_
  ·have hn2:n=a.length:=by exact eV
   subst hn2
   refine Gr [23] ?_
   have ht:(F4 .andNot a b a.length).take a.length=F4 .andNot a b a.length:=List.take_of_length_le (by rw[EL];exact Nat.le_refl _)
   repeat'(first|exact trivial|refine eS rfl ?_|refine AB ?_|refine rX [0,1,4,5,6,10] hc ?_ ?_|refine rC ?_ ?_<;>intro AA<;>try(cases AA;done))
   ·rw[ht,EL];exact ha
   ·rw[ht]
    exact AH hc [.tmp 4] rfl (.inl rfl) (by simp) (by unfold PY;first|exact eR|refine Aw ?_)
def Ew (a b:List Int):Bool:=((PY a b).length:Int)==0
def L0:Af:={ ins:=[BA,BA],pre:=fun(a,_,_)=>List.length a≤100000,out:=fun(a,b,_)=>[.p .bool (Ew a b)],lend:=true }
attribute [local go_sem] L0
theorem Ve:Al Tryz.prog 190 L0:=by
 refine AU Tryz.func190 (by kernel_rfl) rfl Tryz.ntmps190 (by decide) (by kernel_rfl) (AG [(211,XV)]) (AF wD AJ) ?_
 rintro w0 O0 ⟨a,b,u⟩ hc-ha
 have ha:a.length≤100000:=ha
 simp only[L0,AN]
 repeat'(first|exact trivial|refine eS rfl ?_|refine AB ?_|refine rX [0,1,4] hc ?_ ?_|refine rC ?_ ?_<;>intro AA<;>try(cases AA;done))
 ·exact ha
 ·exact AH hc [.tmp 4] rfl (.inl rfl) (by simp) (by unfold Ew;first|exact eR|refine Aw ?_)
def Fc (a b:List Int):Bool:=Ew a b&&Ew b a
def Rj:Af:={ ins:=[BA,BA],pre:=fun(a,b,_)=>List.length a≤100000∧List.length b≤100000,out:=fun(a,b,_)=>[.p .bool (Fc a b)],lend:=true }
theorem qS:Al Tryz.prog 186 Rj:=by
 refine AU Tryz.func186 (by kernel_rfl) rfl Tryz.ntmps186 (by decide) (by kernel_rfl) (AG [(190,L0)]) (AF Ve AJ) ?_
 rintro w0 O0 ⟨a,b,u⟩ hc-⟨ha,hb⟩
 simp only[Rj,AN]
 repeat'(first|exact trivial|refine eS rfl ?_|refine AB ?_|refine rX [0,1,4] hc ?_ ?_|refine rC ?_ ?_<;>intro AA<;>try(cases AA;done))
 ·exact⟨ha,fun _=>hb⟩
 ·exact AH hc [.tmp 4] rfl (.inl rfl) (by simp) (by unfold Fc;first|exact eR|refine Aw ?_)
end
/- Functions of grammarlabref02: Same, List. -/
section
attribute [local go_sem] dL
def HO (a b:List Int):Bool:=decide (a=b)
def Md:Af:={ ins:=[BA,BA],pre:=fun _=>True,out:=fun(a,b,_)=>[.p .bool (HO a b)],lend:=true }
theorem XW:Al Tryz.prog 177 Md:=by
 refine AU Tryz.func177 (by kernel_rfl) rfl Tryz.ntmps177 (by decide) (by kernel_rfl) (AG []) AJ ?_
 rintro w0 O0 ⟨a,b,u⟩ hc ⟨⟨ha,-⟩,-⟩ -
 simp only[AP]at ha
 simp only[Md,AN]
 repeat'(first|exact trivial|refine eS rfl ?_|refine AB ?_|refine rX [0,1,4,5,10,14,25] hc ?_ ?_|refine rC ?_ ?_<;>intro AA<;>try(cases AA;done))
 ·have h1:HO a b=false:=by
   unfold HO
   rw[decide_eq_false_iff_not]
   rintro rfl
   exact AA rfl
  exact AH hc [.tmp 4] rfl (.inl rfl) (by simp) (by rw[h1];first|exact eR|refine Aw ?_)
 ·have hab:a.length=b.length:=by
   have:(a.length:Int)=(b.length:Int):=by simpa using AA
   exact Int.ofNat_inj.1 this
  refine AL (ι:={k:Nat//k≤a.length∧a.take k=b.take k}) (fun k=>⟨[(0,.p BA a),(1,.p BA b),(5,.p (.int .i64) (k.1:Int))],[]⟩) (fun k=>a.length-k.1) ⟨0,Nat.zero_le _,rfl⟩ (AC [] rfl rfl ?_ ?_) (fun k=>?_)
  ·first|exact eN|refine eM ?_
  ·first|exact eN|refine eM ?_
  ·obtain⟨k,hk,hf⟩:=k
   simp only
   repeat'(first|exact trivial|refine eS rfl ?_|refine AB ?_|refine rX [0,1,4,5,10,14,25] hc ?_ ?_|refine rC ?_ ?_<;>intro AA<;>try(cases AA;done))
   ·exact⟨AA,by rw[←hab];exact AA⟩
   ·have hk2:k<a.length:=by exact eV
    have h1:HO a b=false:=by
     unfold HO
     rw[decide_eq_false_iff_not]
     rintro rfl
     exact AA rfl
    exact AH hc [.tmp 4] rfl (.inl rfl) (by simp) (by rw[h1];first|exact eR|refine Aw ?_)
   ·exact eV
   ·have hk2:k<a.length:=by exact eV
    have he:a.getD k 0=b.getD k 0:=by simpa using AA
    refine⟨⟨k+1,by omega,?_⟩,by simp only;omega,AC [] rfl rfl ?_ ?_⟩
    ·rw[Ac a 0 hk2,Ac b 0 (by omega),hf]
     rw[show a.getD k 0=b.getD k 0 from he]
    ·first|exact eN|refine eM ?_
    ·first|exact eN|refine eM ?_
   ·have hk2:k=a.length:=by exact eV
    subst hk2
    rw[List.take_length,hab,List.take_length]at hf
    have h1:HO a b=true:=by unfold HO;rw[hf];simp
    exact AH hc [.tmp 4] rfl (.inl rfl) (by simp) (by rw[h1];first|exact eR|refine Aw ?_)
end
/- Functions of grammarlabref02: List, Count. -/
section
attribute [local go_sem] dL
def Me (b:List Int) (n:Nat):List Int:=((List.range n).filter fun(i:Nat)=>Sz b (i:Int)).map fun(i:Nat)=>(i:Int)
def HP (b:List Int):List Int:=Me b (64*b.length)
theorem dN (b:List Int) (n:Nat):Me b (n+1)=Me b n++if Sz b (n:Int)=true then [(n:Int)] else []:=by
 unfold Me
 rw[List.range_succ,List.filter_append,List.map_append]
 congr 1
 rw[List.filter_cons,List.filter_nil]
 split<;>rfl
theorem qT (b:List Int) (n:Nat):(Me b n).length≤n:=by
 unfold Me
 rw[List.length_map]
 exact Nat.le_trans (List.length_filter_le _ _) (by simp)
def nS:Af:={ ins:=[BA],pre:=fun(b,_)=>List.length b≤100000,out:=fun(b,_)=>[.p Ek (HP b)] }
attribute [local go_sem] nS
theorem A1I:Al Tryz.prog 210 nS:=by
 refine AU Tryz.func210 (by kernel_rfl) rfl Tryz.ntmps210 (by decide) (by kernel_rfl) (AG [(187,dL)]) (AF wC AJ) ?_
 rintro w0 O0 ⟨b,u⟩ hc-hb
 have hb:b.length≤100000:=hb
 simp only[nS,AN]
 repeat'(first|exact trivial|refine eS rfl ?_|refine AB ?_|refine rX [0,2,3,4,9,14] hc ?_ ?_|refine rC ?_ ?_<;>intro AA<;>try(cases AA;done))
 refine AL (ι:={n:Nat//n≤64*b.length}) (fun n=>⟨[(0,.p BA b),(3,.sr 18 T3 0 (Me b n.1).length),(4,.p (.int .i64) (n.1:Int))],[(18,.arr 3 T3 (Me b n.1))]⟩) (fun n=>64*b.length-n.1) ⟨0,Nat.zero_le _⟩ (AC [(18,.nil)] rfl rfl ?_ ?_) (fun n=>?_)
 ·first|exact eN|refine eM ?_
  rfl
 ·first|exact eN|refine eM ?_
  rfl
 ·obtain⟨n,hn⟩:=n
  have hz:=qT b n
  have hs:=dN b n
  simp only
  repeat'(first|exact trivial|refine eS rfl ?_|refine AB ?_|refine rX [0,2,3,4,9,14] hc ?_ ?_|refine rC ?_ ?_<;>intro AA<;>try(cases AA;done))
  ·exact eV
  ·rw[AA,if_pos rfl]at hs
   simp only[AP]
   dsimp only[Ty.den]at *
   omega
  ·exact eV
  ·have hn2:n<64*b.length:=by exact eV
   rw[AA,if_pos rfl]at hs
   refine⟨⟨n+1,by omega⟩,by simp only;omega,AC [(18,.nm 18)] rfl rfl ?_ ?_⟩
   ·simp only[hs]
    first|exact eN|refine eM ?_
   ·simp only[hs]
    first|exact eN|refine eM ?_
  ·exact eV
  ·have hn2:n<64*b.length:=by exact eV
   rw[AA,if_neg (by simp),List.append_nil]at hs
   refine⟨⟨n+1,by omega⟩,by simp only;omega,AC [(18,.nm 18)] rfl rfl ?_ ?_⟩
   ·simp only[hs]
    first|exact eN|refine eM ?_
   ·simp only[hs]
    first|exact eN|refine eM ?_
  ·have hn2:n=64*b.length:=by exact eV
   subst hn2
   refine Gr [18] ?_
   exact AH hc [.tmp 2] rfl (.inl rfl) (by simp) (by unfold HP;first|exact eR|refine Aw ?_)
def XX:Af:={ ins:=[BA],pre:=fun(b,_)=>List.length b≤100000,out:=fun(b,_)=>[.p T3 ((HP b).length:Int)],lend:=true }
theorem wE:Al Tryz.prog 189 XX:=by
 refine AU Tryz.func189 (by kernel_rfl) rfl Tryz.ntmps189 (by decide) (by kernel_rfl) (AG [(210,nS)]) (AF A1I AJ) ?_
 rintro w0 O0 ⟨b,u⟩ hc-hb
 simp only[XX,AN]
 repeat'(first|exact trivial|refine eS rfl ?_|refine AB ?_|refine rX [0,2] hc ?_ ?_|refine rC ?_ ?_<;>intro AA<;>try(cases AA;done))
 ·exact hb
 ·exact AH hc [.tmp 2] rfl (.inl rfl) (by simp) (by first|exact eR|refine Aw ?_)
end
/- Functions of grammarlabref03: find, sizes, ready. -/
section
attribute [local go_sem] D5 nP
abbrev AK:=ByteArray×List ByteArray×List (ByteArray×ByteArray)
abbrev d0:AK:=(ByteArray.empty,[],[])
def Cd (s:ByteArray):Nat→List AK→Int
 | _,[]=>-1
 | k,x :: l=>if Ar x.1 s=true then (k:Int) else Cd s (k+1) l
def BB (l:List AK) (s:ByteArray):Int:=Cd s 0 l
theorem Qo (s:ByteArray) (l:List AK) {k:Nat} (h:k<l.length):Cd s k (l.drop k)=if Ar (l.getD k d0).1 s=true then (k:Int) else Cd s (k+1) (l.drop (k+1)):=by
 rw[List.drop_eq_getElem_cons h]
 have e:l.getD k d0=l[k]:=by simp[List.getD_eq_getElem?_getD,h]
 rw[e]
 rfl
def Gc:Af:={ ins:=[Ec,T9],pre:=fun _=>True,out:=fun(l,s,_)=>[.p T3 (BB l s)] }
attribute [local go_sem] Gc
theorem Kt:Al Tryz.prog 206 Gc:=by
 refine AU Tryz.func206 (by kernel_rfl) rfl Tryz.ntmps206 (by decide) (by kernel_rfl) (AG []) AJ ?_
 rintro w0 O0 ⟨l,s,u⟩ hc ⟨⟨hl,-⟩,-⟩ -
 simp only[AP]at hl
 simp only[Gc,AN]
 repeat'(first|exact trivial|refine eS rfl ?_|refine AB ?_|refine rX [0,1,4,5,9,18] hc ?_ ?_|refine rC ?_ ?_<;>intro AA<;>try(cases AA;done))
 refine AL (ι:={k:Nat//k≤l.length∧Cd s k (l.drop k)=BB l s}) (fun k=>⟨[(0,.p Ec l),(1,.p T9 s),(5,.p (.int .i64) (k.1:Int))],[]⟩) (fun k=>l.length-k.1) ⟨0,Nat.zero_le _,rfl⟩ (AC [] rfl rfl ?_ ?_) (fun k=>?_)
 ·first|exact eN|refine eM ?_
 ·first|exact eN|refine eM ?_
 ·obtain⟨k,hk,hf⟩:=k
  simp only
  repeat'(first|exact trivial|refine eS rfl ?_|refine AB ?_|refine rX [0,1,4,5,9,18] hc ?_ ?_|refine rC ?_ ?_<;>intro AA<;>try(cases AA;done))
  ·exact AA
  ·have hk2:k<l.length:=by exact eV
   rw[Qo s l hk2,if_pos AA]at hf
   exact AH hc [.tmp 4] rfl (.inl rfl) (by simp) (by rw[←hf];first|exact eR|refine Aw ?_)
  ·exact eV
  ·have hk2:k<l.length:=by exact eV
   rw[Qo s l hk2,if_neg (by rw[AA];simp)]at hf
   refine⟨⟨k+1,by omega,hf⟩,by simp only;omega,AC [] rfl rfl ?_ ?_⟩
   ·first|exact eN|refine eM ?_
   ·first|exact eN|refine eM ?_
  ·have hk2:l.drop k=[]:=List.drop_eq_nil_of_le (by exact eV)
   rw[hk2]at hf
   exact AH hc [.tmp 4] rfl (.inl rfl) (by simp) (by rw[←hf];first|exact eR|refine Aw ?_;rfl)
def Ku:List AK→Int
 | []=>0
 | x :: l=>if 256<x.2.1.length∨256<x.2.2.length then 7 else Ku l
def Ei (l:List AK):Int:=if 256<l.length then 7 else Ku l
theorem Qp (l:List AK) {k:Nat} (h:k<l.length):Ku (l.drop k)=if 256<(l.getD k d0).2.1.length∨256<(l.getD k d0).2.2.length then 7 else Ku (l.drop (k+1)):=by
 rw[List.drop_eq_getElem_cons h]
 have e:l.getD k d0=l[k]:=by simp[List.getD_eq_getElem?_getD,h]
 rw[e]
 rfl
def S0:Af:={ ins:=[Ec],pre:=fun _=>True,out:=fun(l,_)=>[.p ZO (Ei l)] }
attribute [local go_sem] S0
theorem wF:Al Tryz.prog 178 S0:=by
 refine AU Tryz.func178 (by kernel_rfl) rfl Tryz.ntmps178 (by decide) (by kernel_rfl) (AG []) AJ ?_
 rintro w0 O0 ⟨l,u⟩ hc ⟨⟨hl,-⟩,-⟩ -
 simp only[AP]at hl
 simp only[S0,AN]
 repeat'(first|exact trivial|refine eS rfl ?_|refine AB ?_|refine rX [0,2,3,6,10,28] hc ?_ ?_|refine rC ?_ ?_<;>intro AA<;>try(cases AA;done))
 ·have h1:Ei l=7:=by unfold Ei;rw[if_pos (by exact eV)]
  exact AH hc [.tmp 2] rfl (.inl rfl) (by simp) (by rw[h1];first|exact eR|refine Aw ?_)
 ·have h1:Ei l=Ku l:=by unfold Ei;rw[if_neg (by exact eV)]
  refine AL (ι:={k:Nat//k≤l.length∧Ku (l.drop k)=Ei l}) (fun k=>⟨[(0,.p Ec l),(3,.p (.int .i64) (k.1:Int))],[]⟩) (fun k=>l.length-k.1) ⟨0,Nat.zero_le _,h1.symm⟩ (AC [] rfl rfl ?_ ?_) (fun k=>?_)
  ·first|exact eN|refine eM ?_
  ·first|exact eN|refine eM ?_
  ·obtain⟨k,hk,hf⟩:=k
   simp only
   repeat'(first|exact trivial|refine eS rfl ?_|refine AB ?_|refine rX [0,2,3,6,10,28] hc ?_ ?_|refine rC ?_ ?_<;>intro AA<;>try(cases AA;done))
   ·exact⟨AA,fun _=>AA⟩
   ·have hk2:k<l.length:=by exact eV
    rw[Qp l hk2,if_pos (by
     rcases AA with h|h
     ·exact .inl (Int.ofNat_lt.1 h)
     ·exact .inr (Int.ofNat_lt.1 h))]at hf
    exact AH hc [.tmp 2] rfl (.inl rfl) (by simp) (by rw[←hf];first|exact eR|refine Aw ?_)
   ·exact eV
   ·have hk2:k<l.length:=by exact eV
    rw[Qp l hk2,if_neg (by
     rintro (h|h)
     ·have:=Int.ofNat_le.1 AA.1;exact absurd h (Nat.not_lt.2 this)
     ·have:=Int.ofNat_le.1 AA.2;exact absurd h (Nat.not_lt.2 this))]at hf
    refine⟨⟨k+1,by omega,hf⟩,by simp only;omega,AC [] rfl rfl ?_ ?_⟩
    ·first|exact eN|refine eM ?_
    ·first|exact eN|refine eM ?_
   ·have hk2:l.drop k=[]:=List.drop_eq_nil_of_le (by exact eV)
    rw[hk2]at hf
    exact AH hc [.tmp 2] rfl (.inl rfl) (by simp) (by rw[←hf];first|exact eR|refine Aw ?_;rfl)
theorem I3 {α:Type} (l:List α) (d:α) (p:α→Bool) {k:Nat} (h:k<l.length):(l.take (k+1)).all p=((l.take k).all p&&p (l.getD k d)):=by
 rw[Ac l d h,List.all_append];simp
def HQ (x:AK) (done:List ByteArray):Bool:=x.2.1.all fun s=>Ad done s
def S1:Af:={ ins:=[qP,Bo],pre:=fun _=>True,out:=fun(x,l,_)=>[.p .bool (HQ x l)],lend:=true }
attribute [local go_sem] S1
theorem wG:Al Tryz.prog 207 S1:=by
 refine AU Tryz.func207 (by kernel_rfl) rfl Tryz.ntmps207 (by decide) (by kernel_rfl) (AG [(183,D5)]) (AF GQ AJ) ?_
 rintro w0 O0 ⟨⟨nm,sup,fe⟩,l,u⟩ hc ⟨⟨-,⟨hsz,-⟩,-⟩,-⟩ -
 simp only[AP]at hsz
 simp only[S1,AN]
 repeat'(first|exact trivial|refine eS rfl ?_|refine AB ?_|refine rX [0,1,2,4,5,10,20] hc ?_ ?_|refine rC ?_ ?_<;>intro AA<;>try(cases AA;done))
 refine AL (ι:={k:Nat//k≤sup.length∧(sup.take k).all (fun s=>Ad l s)=true}) (fun k=>⟨[(1,.p Bo l),(2,.bp 2 [] 0),(5,.p (.int .i64) (k.1:Int))],[(2,.box 154 true [.p T9 nm,.p Bo sup,.p ZQ fe])]⟩) (fun k=>sup.length-k.1) ⟨0,by simp⟩ (AC [(2,.nm 2)] rfl rfl ?_ ?_) (fun k=>?_)
 ·first|exact eN|refine eM ?_
 ·first|exact eN|refine eM ?_
 ·obtain⟨k,hk,hf⟩:=k
  simp only
  repeat'(first|exact trivial|refine eS rfl ?_|refine AB ?_|refine rX [0,1,2,4,5,10,20] hc ?_ ?_|refine rC ?_ ?_<;>intro AA<;>try(cases AA;done))
  ·exact AA
  ·have hk2:k<sup.length:=by exact eV
   have h1:HQ (nm,sup,fe) l=false:=by
    unfold HQ
    refine Bool.eq_false_iff.2 fun h=>?_
    have:=List.all_eq_true.1 h _ (AD sup ByteArray.empty hk2)
    rw[AA]at this
    cases this
   exact AH hc [.tmp 4] rfl (.inl rfl) (by simp) (by rw[h1];first|exact eR|refine Aw ?_)
  ·have:=hsz
   exact eV
  ·have hk2:k<sup.length:=by exact eV
   refine⟨⟨k+1,by omega,?_⟩,by simp only;omega,AC [(2,.nm 2)] rfl rfl ?_ ?_⟩
   ·rw[I3 sup ByteArray.empty _ hk2,hf]
    exact AA
   ·first|exact eN|refine eM ?_
   ·first|exact eN|refine eM ?_
  ·have hk2:sup.take k=sup:=List.take_of_length_le (by exact eV)
   rw[hk2]at hf
   have h1:HQ (nm,sup,fe) l=true:=hf
   exact AH hc [.tmp 4] rfl (.inl rfl) (by simp) (by rw[h1];first|exact eR|refine Aw ?_)
def M3 (d:List AK):Nat→List AK→Int
 | _,[]=>0
 | k,x :: l=>if Eh x.1 false=false then 1 else if BB d x.1<(k:Int) then 4 else M3 d (k+1) l
def Dd (d:List AK):Int:=M3 d 0 d
theorem Kv (d l:List AK) {k:Nat} (h:k<l.length):M3 d k (l.drop k)=if Eh (l.getD k d0).1 false=false then 1 else if BB d (l.getD k d0).1<(k:Int) then 4 else M3 d (k+1) (l.drop (k+1)):=by
 rw[List.drop_eq_getElem_cons h]
 have e:l.getD k d0=l[k]:=by simp[List.getD_eq_getElem?_getD,h]
 rw[e]
 rfl
def S2:Af:={ ins:=[Ec],pre:=fun _=>True,out:=fun(l,_)=>[.p ZO (Dd l)] }
attribute [local go_sem] S2
theorem wH:Al Tryz.prog 179 S2:=by
 refine AU Tryz.func179 (by kernel_rfl) rfl Tryz.ntmps179 (by decide) (by kernel_rfl) (AG [(205,nP),(206,Gc)]) (AF A1H (AF Kt AJ)) ?_
 rintro w0 O0 ⟨l,u⟩ hc ⟨⟨hl,-⟩,-⟩ -
 simp only[AP]at hl
 simp only[S2,AN]
 repeat'(first|exact trivial|refine eS rfl ?_|refine AB ?_|refine rX [0,2,3,7,16,25] hc ?_ ?_|refine rC ?_ ?_<;>intro AA<;>try(cases AA;done))
 refine AL (ι:={k:Nat//k≤l.length∧M3 l k (l.drop k)=Dd l}) (fun k=>⟨[(0,.p Ec l),(3,.p (.int .i64) (k.1:Int))],[]⟩) (fun k=>l.length-k.1) ⟨0,Nat.zero_le _,rfl⟩ (AC [] rfl rfl ?_ ?_) (fun k=>?_)
 ·first|exact eN|refine eM ?_
 ·first|exact eN|refine eM ?_
 ·obtain⟨k,hk,hf⟩:=k
  simp only
  repeat'(first|exact trivial|refine eS rfl ?_|refine AB ?_|refine rX [0,2,3,7,16,25] hc ?_ ?_|refine rC ?_ ?_<;>intro AA<;>try(cases AA;done))
  ·exact AA
  ·have hk2:k<l.length:=by exact eV
   rw[Kv l l hk2,if_pos AA]at hf
   exact AH hc [.tmp 2] rfl (.inl rfl) (by simp) (by rw[←hf];first|exact eR|refine Aw ?_)
  ·assumption
  ·rename_i hnm
   have hk2:k<l.length:=by exact eV
   rw[Kv l l hk2,if_neg (by rw[hnm];simp),if_pos AA]at hf
   exact AH hc [.tmp 2] rfl (.inl rfl) (by simp) (by rw[←hf];first|exact eR|refine Aw ?_)
  ·exact eV
  ·rename_i hnm
   have hk2:k<l.length:=by exact eV
   rw[Kv l l hk2,if_neg (by rw[hnm];simp),if_neg (Int.not_lt.2 AA)]at hf
   refine⟨⟨k+1,by omega,hf⟩,by simp only;omega,AC [] rfl rfl ?_ ?_⟩
   ·first|exact eN|refine eM ?_
   ·first|exact eN|refine eM ?_
  ·have hk2:l.drop k=[]:=List.drop_eq_nil_of_le (by exact eV)
   rw[hk2]at hf
   exact AH hc [.tmp 2] rfl (.inl rfl) (by simp) (by rw[←hf];first|exact eR|refine Aw ?_;rfl)
def RP (d:List AK) (l:List ByteArray):Nat→List ByteArray→Int
 | _,[]=>0
 | k,x :: r=>if BB d x<0 then 5 else if Ad (l.take k) x=true then 4 else RP d l (k+1) r
def Ji (d:List AK):List AK→Int
 | []=>0
 | x :: l=>if RP d x.2.1 0 x.2.1≠0 then RP d x.2.1 0 x.2.1 else Ji d l
def Jj (d:List AK):Int:=Ji d d
theorem PZ (d:List AK) (l:List ByteArray) {k:Nat} (h:k<l.length):RP d l k (l.drop k)=if BB d (l.getD k ByteArray.empty)<0 then 5 else if Ad (l.take k) (l.getD k ByteArray.empty)=true then 4 else RP d l (k+1) (l.drop (k+1)):=by
 rw[List.drop_eq_getElem_cons h]
 have e:l.getD k ByteArray.empty=l[k]:=by simp[List.getD_eq_getElem?_getD,h]
 rw[e]
 rfl
theorem XY (d l:List AK) {k:Nat} (h:k<l.length):Ji d (l.drop k)=if RP d (l.getD k d0).2.1 0 (l.getD k d0).2.1≠0 then RP d (l.getD k d0).2.1 0 (l.getD k d0).2.1 else Ji d (l.drop (k+1)):=by
 rw[List.drop_eq_getElem_cons h]
 have e:l.getD k d0=l[k]:=by simp[List.getD_eq_getElem?_getD,h]
 rw[e]
 rfl
def OQ:Af:={ ins:=[Ec],pre:=fun _=>True,out:=fun(l,_)=>[.p ZO (Jj l)] }
attribute [local go_sem] OQ
theorem qU:Al Tryz.prog 180 OQ:=by
 refine AU Tryz.func180 (by kernel_rfl) rfl Tryz.ntmps180 (by decide) (by kernel_rfl) (AG [(183,D5),(206,Gc)]) (AF GQ (AF Kt AJ)) ?_
 rintro w0 O0 ⟨l,u⟩ hc ⟨⟨hl,hall⟩,-⟩ -
 simp only[AP]at hl
 simp only[OQ,AN]
 repeat'(first|exact trivial|refine eS rfl ?_|refine AB ?_|refine rX [0,2,3,4,5,9,20,29,37] hc ?_ ?_|refine rC ?_ ?_<;>intro AA<;>try(cases AA;done))
 refine AL (ι:={i:Nat//i≤l.length∧Ji l (l.drop i)=Jj l}) (fun i=>⟨[(0,.p Ec l),(3,.p (.int .i64) (i.1:Int))],[]⟩) (fun i=>l.length-i.1) ⟨0,Nat.zero_le _,rfl⟩ (AC [] rfl rfl ?_ ?_) (fun i=>?_)
 ·first|exact eN|refine eM ?_
 ·first|exact eN|refine eM ?_
 ·obtain⟨i,hi,hf⟩:=i
  simp only
  repeat'(first|exact trivial|refine eS rfl ?_|refine AB ?_|refine rX [0,2,3,4,5,9,20,29,37] hc ?_ ?_|refine rC ?_ ?_<;>intro AA<;>try(cases AA;done))
  ·exact AA
  ·have hi2:i<l.length:=by exact eV
   have hm:=hall _ (AD l d0 hi2)
   have hml:(l.getD i d0).2.1.length≤AP:=hm.2.1.1
   simp only[AP]at hml
   rw[XY l l hi2]at hf
   generalize (l.getD i d0).2.1=sup at *
   refine AL (ι:={k:Nat//k≤sup.length∧RP l sup k (sup.drop k)=RP l sup 0 sup}) (fun k=>⟨[(0,.p Ec l),(3,.p (.int .i64) (i:Int)),(4,.p Bo sup),(5,.p (.int .i64) (k.1:Int))],[]⟩) (fun k=>sup.length-k.1) ⟨0,Nat.zero_le _,rfl⟩ (AC [] rfl rfl ?_ ?_) (fun k=>?_)
   ·first|exact eN|refine eM ?_
   ·first|exact eN|refine eM ?_
   ·obtain⟨k,hk,hg⟩:=k
    simp only
    repeat'(first|exact trivial|refine eS rfl ?_|refine AB ?_|refine rX [0,2,3,4,5,9,20,29,37] hc ?_ ?_|refine rC ?_ ?_<;>intro AA<;>try(cases AA;done))
    ·exact AA
    ·have hk2:k<sup.length:=by exact eV
     rw[PZ l sup hk2,if_pos AA]at hg
     rw[←hg,if_pos (by decide)]at hf
     exact AH hc [.tmp 2] rfl (.inl rfl) (by simp) (by rw[←hf];first|exact eR|refine Aw ?_)
    ·exact eV
    ·rename_i hge
     have hk2:k<sup.length:=by exact eV
     rw[PZ l sup hk2,if_neg (Int.not_lt.2 hge),if_pos AA]at hg
     rw[←hg,if_pos (by decide)]at hf
     exact AH hc [.tmp 2] rfl (.inl rfl) (by simp) (by rw[←hf];first|exact eR|refine Aw ?_)
    ·exact eV
    ·rename_i hge
     have hk2:k<sup.length:=by exact eV
     rw[PZ l sup hk2,if_neg (Int.not_lt.2 hge),if_neg (by rw[AA];simp)]at hg
     refine⟨⟨k+1,by omega,hg⟩,by simp only;omega,AC [] rfl rfl ?_ ?_⟩
     ·first|exact eN|refine eM ?_
     ·first|exact eN|refine eM ?_
    ·exact eV
    ·have hk2:sup.drop k=[]:=List.drop_eq_nil_of_le (by exact eV)
     rw[hk2]at hg
     rw[←hg,if_neg (by simp[RP])]at hf
     refine⟨⟨i+1,by omega,hf⟩,by simp only;omega,AC [] rfl rfl ?_ ?_⟩
     ·first|exact eN|refine eM ?_
     ·first|exact eN|refine eM ?_
  ·have hk2:l.drop i=[]:=List.drop_eq_nil_of_le (by exact eV)
   rw[hk2]at hf
   exact AH hc [.tmp 2] rfl (.inl rfl) (by simp) (by rw[←hf];first|exact eR|refine Aw ?_;rfl)
end
/- Functions of grammarlabref03: Names, placed. -/
section
attribute [local go_sem] Gc S1 D5 M2
theorem EZ {α β:Type} (g:β→α→β) (l:List α) (d:α) (t:β) {i:Nat} (hi:i<l.length):(l.take (i+1)).foldl g t=g ((l.take i).foldl g t) (l.getD i d):=by
 rw[Ac l d hi,List.foldl_append];rfl
theorem Kw (l:List ByteArray) (s:ByteArray):(D6 l s).length≤l.length+1:=by
 unfold D6
 split
 ·omega
 ·have:=A2U (fun x=>Gi x s) l
  have h2:tM l s≤l.length:=this
  simp only[List.length_append,List.length_take,List.length_drop,List.length_singleton]
  omega
def AX (l:List AK):List ByteArray:=l.foldl (fun o x=>D6 o x.1) []
theorem E0 (l:List AK) (k:Nat):(AX (l.take k)).length≤k:=by
 have key:∀(l:List AK) (o:List ByteArray),(l.foldl (fun o x=>D6 o x.1) o).length≤o.length+l.length:=by
  intro l
  induction l with
  | nil=>intro o;simp
  | cons x l ih =>
   intro o
   have h1:=ih (D6 o x.1)
   have h2:=Kw o x.1
   simp only[List.foldl_cons,List.length_cons]
   omega
 have h1:=key (l.take k) []
 have h2:=List.length_take_le k l
 unfold AX
 simp only[List.length_nil]at h1
 omega
def Jk:Af:={ ins:=[Ec],pre:=fun(l,_)=>List.length l≤100000,out:=fun(l,_)=>[.p Bo (AX l)] }
attribute [local go_sem] Jk
theorem Vf:Al Tryz.prog 134 Jk:=by
 refine AU Tryz.func134 (by kernel_rfl) rfl Tryz.ntmps134 (by decide) (by kernel_rfl) (AG [(174,M2)]) (AF PX AJ) ?_
 rintro w0 O0 ⟨l,u⟩ hc-hl
 have hl:l.length≤100000:=hl
 simp only[Jk,AN]
 repeat'(first|exact trivial|refine eS rfl ?_|refine AB ?_|refine rX [0,2,3,4,8] hc ?_ ?_|refine rC ?_ ?_<;>intro AA<;>try(cases AA;done))
 refine AL (ι:={k:Nat//k≤l.length}) (fun k=>⟨[(0,.p Ec l),(3,.p Bo (AX (l.take k.1))),(4,.p (.int .i64) (k.1:Int))],[]⟩) (fun k=>l.length-k.1) ⟨0,Nat.zero_le _⟩ (AC [] rfl rfl ?_ ?_) (fun k=>?_)
 ·first|exact eN|refine eM ?_
 ·first|exact eN|refine eM ?_
  rfl
 ·obtain⟨k,hk⟩:=k
  have hn:=E0 l k
  have hs:=fun h:k<l.length=>EZ (fun(o:List ByteArray) (x:AK)=>D6 o x.1) l d0 [] h
  simp only
  repeat'(first|exact trivial|refine eS rfl ?_|refine AB ?_|refine rX [0,2,3,4,8] hc ?_ ?_|refine rC ?_ ?_<;>intro AA<;>try(cases AA;done))
  ·exact⟨AA,by omega⟩
  ·exact eV
  ·have hk2:k<l.length:=by exact eV
   have e:=hs hk2
   refine⟨⟨k+1,by omega⟩,by simp only;omega,AC [] rfl rfl ?_ ?_⟩
   ·first|exact eN|refine eM ?_
   ·simp only
    have e:AX (l.take (k+1))=D6 (AX (l.take k)) (l.getD k d0).1:=e
    rw[e]
    first|exact eN|refine eM ?_
  ·have hk2:l.take k=l:=List.take_of_length_le (by exact eV)
   rw[hk2]
   exact AH hc [.tmp 2] rfl (.inl rfl) (by simp) (by first|exact eR|refine Aw ?_)
def H6 (out:List ByteArray) (s:Bool×ByteArray) (x:AK):Bool×ByteArray :=
 if (Ad out x.1||!HQ x out)=true then s else (true,if (!s.1||Gi x.1 s.2)=true then x.1 else s.2)
def HR (d:List AK) (out:List ByteArray):Bool×ByteArray:=d.foldl (H6 out) (false,ByteArray.empty)
def H7 (d:List AK):Nat→List ByteArray→List ByteArray
 | 0,out=>out
 | n+1,out=>if (HR d out).1=true then H7 d n (out++[(HR d out).2]) else out
def BX (d:List AK):List ByteArray:=H7 d d.length []
def HS (d:List AK) (out:List ByteArray):Nat:=d.countP fun x=>!Ad out x.1
theorem E1 (s:ByteArray):Ar s s=true:=by unfold Ar;simp
theorem M4 (out:List ByteArray) (s x:ByteArray):Ad (out++[s]) x=(Ad out x||Ar s x):=by
 unfold Ad
 simp[List.any_append]
theorem qV (d:List AK) (out:List ByteArray) (h:(HR d out).1=true):∃x∈d,x.1=(HR d out).2∧Ad out x.1=false:=by
 have key:∀(l:List AK) (s:Bool×ByteArray),(∀x∈l,x∈d)→(s.1=true→∃x∈d,x.1=s.2∧Ad out x.1=false)→(l.foldl (H6 out) s).1=true →
   ∃x∈d,x.1=(l.foldl (H6 out) s).2∧Ad out x.1=false:=by
  intro l
  induction l with
  | nil=>intro s _ hs h;exact hs h
  | cons y l ih =>
   intro s hl hs h
   rw[List.foldl_cons]at h ⊢
   refine ih _ (fun x hx=>hl x (by simp[hx])) (fun hp=>?_) h
   unfold H6 at hp ⊢
   split
   ·rename_i hc
    rw[if_pos hc]at hp
    exact hs hp
   ·rename_i hc
    simp only
    have hy:Ad out y.1=false:=by
     cases hh:Ad out y.1 with
     | false=>rfl
     | true=>rw[hh]at hc;simp at hc
    split
    ·exact⟨y,hl y (by simp),rfl,hy⟩
    ·rename_i hc2
     have:s.1=true:=by
      cases hh:s.1 with
      | true=>rfl
      | false=>rw[hh]at hc2;simp at hc2
     exact hs this
 exact key d _ (fun _ h=>h) (fun h=>by cases h) h
theorem ZX {d:List AK} {out:List ByteArray} (h:(HR d out).1=true):HS d (out++[(HR d out).2])<HS d out:=by
 obtain⟨x,hx,h1,h2⟩:=qV d out h
 generalize (HR d out).2=s at *
 unfold HS
 have key:∀l:List AK,(l.countP fun y=>!Ad (out++[s]) y.1)≤l.countP fun y=>!Ad out y.1:=by
  intro l
  refine List.countP_mono_left fun y _ hy=>?_
  rw[M4]at hy
  cases hh:Ad out y.1 with
  | false=>rfl
  | true=>rw[hh]at hy;simp at hy
 obtain⟨l1,l2,rfl⟩:=List.append_of_mem hx
 rw[List.countP_append,List.countP_append,List.countP_cons,List.countP_cons]
 have k1:=key l1
 have k2:=key l2
 have e1:Ad (out++[s]) x.1=true:=by rw[M4,h1,E1,Bool.or_true]
 rw[e1,h2]
 simp only[Bool.not_true,Bool.not_false,if_true]
 simp only[Bool.false_eq_true,if_false]
 omega
def Rk:Af:={ ins:=[Ec],pre:=fun(l,_)=>List.length l≤100000,out:=fun(l,_)=>[.p Bo (BX l)] }
theorem qW:Al Tryz.prog 181 Rk:=by
 refine AU Tryz.func181 (by kernel_rfl) rfl Tryz.ntmps181 (by decide) (by kernel_rfl) (AG [(183,D5),(207,S1)]) (AF GQ (AF wG AJ)) ?_
 rintro w0 O0 ⟨d,u⟩ hc-hd
 have hd:d.length≤100000:=hd
 simp only[Rk,AN]
 repeat'(first|exact trivial|refine eS rfl ?_|refine AB ?_|refine rX [0,2,3,4,5,6,7,11,29,40,46] hc ?_ ?_|refine rC ?_ ?_<;>intro AA<;>try(cases AA;done))
 refine AL (ι:={x:Nat×List ByteArray×Bool//x.1+x.2.1.length≤d.length∧(x.2.2=true→HS d x.2.1≤x.1∧H7 d x.1 x.2.1=BX d)∧(x.2.2=false→x.2.1=BX d)}) (fun x=>⟨[(0,.p Ec d),(3,.sr 50 T9 0 x.1.2.1.length),(4,.p .bool x.1.2.2)],[(50,.arr 9 T9 x.1.2.1)]⟩) (fun x=>(if x.1.2.2=true then x.1.1+1 else 0)) ⟨(d.length,[],true),by simp,fun _=>⟨List.countP_le_length,rfl⟩,fun h=>by cases h⟩ (AC [(50,.nil)] rfl rfl ?_ ?_) (fun x=>?_)
 ·first|exact eN|refine eM ?_
 ·first|exact eN|refine eM ?_
 ·obtain⟨⟨n,out,more⟩,hlen,hm1,hm2⟩:=x
  simp only at hlen hm1 hm2
  simp only
  repeat'(first|exact trivial|refine eS rfl ?_|refine AB ?_|refine rX [0,2,3,4,5,6,7,11,29,40,46] hc ?_ ?_|refine rC ?_ ?_<;>intro AA<;>try(cases AA;done))
  ·subst AA
   obtain⟨hu,hp⟩:=hm1 rfl
   have hz:({ data:=#[] }:ByteArray).size≤AP:=by decide
   rw[if_pos hz]
   refine AL (ι:={y:Nat×Bool×ByteArray//y.1≤d.length∧(d.take y.1).foldl (H6 out) (false,ByteArray.empty)=y.2}) (fun y=>⟨[(0,.p Ec d),(3,.sr 50 T9 0 out.length),(4,.p .bool y.1.2.1),(5,.p T9 y.1.2.2),(6,.p (.int .i64) (y.1.1:Int))],[(50,.arr 9 T9 out)]⟩) (fun y=>d.length-y.1.1) ⟨(0,false,ByteArray.empty),by simp,rfl⟩ (AC [(50,.nm 50)] rfl rfl ?_ ?_) (fun y=>?_)
   ·first|exact eN|refine eM ?_
   ·first|exact eN|refine eM ?_
    rfl
   ·obtain⟨⟨k,mo,nx⟩,hk,hfold⟩:=y
    simp only at hk hfold
    have hstep:∀h:k<d.length,(d.take (k+1)).foldl (H6 out) (false,ByteArray.empty)=H6 out (mo,nx) (d.getD k d0):=fun h=>by
     rw[EZ (H6 out) d d0 _ h,hfold]
    simp only
    repeat'(first|exact trivial|refine eS rfl ?_|refine AB ?_|refine rX [0,2,3,4,5,6,7,11,29,40,46] hc ?_ ?_|refine rC ?_ ?_<;>intro AA<;>try(cases AA;done))
    ·exact⟨AA,fun _=>AA⟩
    ·exact eV
    ·have hk2:k<d.length:=by exact eV
     refine⟨⟨(k+1,mo,nx),by simp only;omega,?_⟩,by simp only;omega,AC [(50,.nm 50)] rfl rfl ?_ ?_⟩
     ·simp only
      rw[hstep hk2]
      unfold H6
      rw[if_pos]
      rw[Bool.or_eq_true,Bool.not_eq_true']
      exact AA
     ·first|exact eN|refine eM ?_
     ·first|exact eN|refine eM ?_
    ·exact fun _=>by assumption
    ·assumption
    ·exact eV
    ·rename_i hc2
     have hk2:k<d.length:=by exact eV
     refine⟨⟨(k+1,true,(d.getD k d0).1),by simp only;omega,?_⟩,by simp only;omega,AC [(50,.nm 50)] rfl rfl ?_ ?_⟩
     ·simp only
      rw[hstep hk2]
      unfold H6
      rw[if_neg (by rw[hc2.1,hc2.2];simp),if_pos (by rw[Bool.or_eq_true,Bool.not_eq_true'];exact AA)]
     ·first|exact eN|refine eM ?_
     ·first|exact eN|refine eM ?_
    ·exact eV
    ·rename_i hc2
     have hk2:k<d.length:=by exact eV
     refine⟨⟨(k+1,true,nx),by simp only;omega,?_⟩,by simp only;omega,AC [(50,.nm 50)] rfl rfl ?_ ?_⟩
     ·simp only
      rw[hstep hk2]
      unfold H6
      rw[if_neg (by rw[hc2.1,hc2.2];simp),if_neg (by rw[Bool.or_eq_true,Bool.not_eq_true'];rintro (h|h)<;>simp_all)]
     ·first|exact eN|refine eM ?_
     ·first|exact eN|refine eM ?_
    ·simp only[AP]
     dsimp only[Ty.den]at *
     omega
    ·subst AA
     have hkd:d.take k=d:=List.take_of_length_le (by exact eV)
     rw[hkd]at hfold
     have hpk:HR d out=(true,nx):=hfold
     have hlt:=ZX (d:=d) (out:=out) (by rw[hpk])
     rw[hpk]at hlt
     obtain⟨n',rfl⟩:∃n',n=n'+1:=⟨n-1,by omega⟩
     have hp2:H7 d n' (out++[nx])=BX d:=by
      rw[←hp]
      show _=if (HR d out).1=true then H7 d n' (out++[(HR d out).2]) else out
      rw[hpk,if_pos rfl]
     have hlt:HS d (out++[nx])<HS d out:=hlt
     have hun:HS d (out++[nx])≤n':=by omega
     refine⟨⟨(n',out++[nx],true),by simp only[List.length_append,List.length_singleton];omega,fun _=>⟨hun,hp2⟩,fun h=>by cases h⟩,by simp,AC [(50,.nm 50)] rfl rfl ?_ ?_⟩
     ·first|exact eN|refine eM ?_
     ·first|exact eN|refine eM ?_
    ·subst AA
     have hkd:d.take k=d:=List.take_of_length_le (by exact eV)
     rw[hkd]at hfold
     have hpk:HR d out=(false,nx):=hfold
     have hp2:out=BX d:=by
      rw[←hp]
      cases n with
      | zero=>rfl
      | succ n =>
       show _=if (HR d out).1=true then H7 d n (out++[(HR d out).2]) else out
       rw[hpk,if_neg (by simp)]
     refine⟨⟨(n,out,false),hlen,(fun h=>by cases h),fun _=>hp2⟩,by simp,AC [(50,.nm 50)] rfl rfl ?_ ?_⟩
     ·first|exact eN|refine eM ?_
     ·first|exact eN|refine eM ?_
  ·subst AA
   have hout:=hm2 rfl
   rw[hout]
   refine Gr [50] ?_
   exact AH hc [.tmp 2] rfl (.inl rfl) (by simp) (by first|exact eR|refine Aw ?_)
end
/- Functions of grammarlabref03: Check. -/
section
attribute [local go_sem] S0 S2 OQ Rk
def HT (d:List AK):Nat:=d.countP fun x=>x.2.1.length==0
theorem ZY (d:List AK) {k:Nat} (h:k<d.length):HT (d.take (k+1))=HT (d.take k)+if ((d.getD k d0).2.1.length==0)=true then 1 else 0:=by
 unfold HT
 rw[Ac d d0 h,List.countP_append,List.countP_cons,List.countP_nil]
 omega
theorem qX (d:List AK):HT d≤d.length:=List.countP_le_length
def BK (d:List AK):Int :=
 if Ei d≠0 then Ei d else if Dd d≠0 then Dd d else if Jj d≠0 then Jj d else if HT d≠1 then 1 else if (BX d).length<d.length then 6 else 0
theorem Qq {d:List AK} (h:Ei d=0):d.length≤256:=by
 unfold Ei at h
 split at h
 ·cases h
 ·omega
def OT:Af:={ ins:=[Ec],pre:=fun _=>True,out:=fun(l,_)=>[.p ZO (BK l)] }
attribute [local go_sem] OT
theorem qY:Al Tryz.prog 133 OT:=by
 refine AU Tryz.func133 (by kernel_rfl) rfl Tryz.ntmps133 (by decide) (by kernel_rfl) (AG [(178,S0),(179,S2),(180,OQ),(181,Rk)]) (AF wF (AF wH (AF qU (AF qW AJ)))) ?_
 rintro w0 O0 ⟨d,u⟩ hc - -
 simp only[OT,AN]
 repeat'(first|exact trivial|refine eS rfl ?_|refine AB ?_|refine rX [0,2,3,4,5,6,7,11,16,21,26,35,39,45] hc ?_ ?_|refine rC ?_ ?_<;>intro AA<;>try(cases AA;done))
 ·have h1:BK d=Ei d:=by unfold BK;rw[if_pos AA]
  exact AH hc [.tmp 2] rfl (.inl rfl) (by simp) (by rw[h1];first|exact eR|refine Aw ?_)
 ·rename_i hs
  have hs:Ei d=0:=by simpa using hs
  have h1:BK d=Dd d:=by unfold BK;rw[if_neg (by rw[hs];simp),if_pos AA]
  exact AH hc [.tmp 2] rfl (.inl rfl) (by simp) (by rw[h1];first|exact eR|refine Aw ?_)
 ·rename_i hs hn
  have hs:Ei d=0:=by simpa using hs
  have hn:Dd d=0:=by simpa using hn
  have h1:BK d=Jj d:=by unfold BK;rw[if_neg (by rw[hs];simp),if_neg (by rw[hn];simp),if_pos AA]
  exact AH hc [.tmp 2] rfl (.inl rfl) (by simp) (by rw[h1];first|exact eR|refine Aw ?_)
 ·rename_i hs hn
  have hs:Ei d=0:=by simpa using hs
  have hn:Dd d=0:=by simpa using hn
  have hu:Jj d=0:=by simpa using AA
  have hd:=Qq hs
  have h1:BK d=if HT d≠1 then 1 else if (BX d).length<d.length then 6 else 0:=by
   unfold BK;rw[if_neg (by rw[hs];simp),if_neg (by rw[hn];simp),if_neg (by rw[hu];simp)]
  refine AL (ι:={k:Nat//k≤d.length}) (fun k=>⟨[(0,.p Ec d),(6,.p (.int .i64) (HT (d.take k.1):Int)),(7,.p (.int .i64) (k.1:Int))],[]⟩) (fun k=>d.length-k.1) ⟨0,Nat.zero_le _⟩ (AC [] rfl rfl ?_ ?_) (fun k=>?_)
  ·first|exact eN|refine eM ?_
  ·first|exact eN|refine eM ?_
   rfl
  ·obtain⟨k,hk⟩:=k
   have hr:=qX (d.take k)
   have hr2:=List.length_take_le k d
   have hsu:=fun h:k<d.length=>ZY d h
   simp only
   repeat'(first|exact trivial|refine eS rfl ?_|refine AB ?_|refine rX [0,2,3,4,5,6,7,11,16,21,26,35,39,45] hc ?_ ?_|refine rC ?_ ?_<;>intro AA<;>try(cases AA;done))
   ·exact AA
   ·exact eV
   ·exact eV
   ·have hk2:k<d.length:=by exact eV
    have e:=hsu hk2
    rw[if_pos (by rw[beq_iff_eq];exact Int.ofNat_eq_zero.1 AA)]at e
    refine⟨⟨k+1,by omega⟩,by simp only;omega,AC [] rfl rfl ?_ ?_⟩
    ·first|exact eN|refine eM ?_
    ·simp only[e]
     first|exact eN|refine eM ?_
   ·exact eV
   ·have hk2:k<d.length:=by exact eV
    have e:=hsu hk2
    rw[if_neg (by rw[beq_iff_eq];exact fun h=>AA (Int.ofNat_eq_zero.2 h))]at e
    refine⟨⟨k+1,by omega⟩,by simp only;omega,AC [] rfl rfl ?_ ?_⟩
    ·first|exact eN|refine eM ?_
    ·simp only[e]
     first|exact eN|refine eM ?_
   ·have hk2:d.take k=d:=List.take_of_length_le (by exact eV)
    rw[hk2]at AA
    rw[if_pos (fun h=>AA (by rw[h];rfl))]at h1
    exact AH hc [.tmp 2] rfl (.inl rfl) (by simp) (by rw[h1];first|exact eR|refine Aw ?_)
   ·show d.length≤100000
    omega
   ·rename_i hro
    have hk2:d.take k=d:=List.take_of_length_le (by exact eV)
    rw[hk2]at hro
    have hro:(HT d:Int)=1:=by simpa using hro
    rw[if_neg (by omega),if_pos (Int.ofNat_lt.1 AA)]at h1
    exact AH hc [.tmp 2] rfl (.inl rfl) (by simp) (by rw[h1];first|exact eR|refine Aw ?_)
   ·rename_i hro
    have hk2:d.take k=d:=List.take_of_length_le (by exact eV)
    rw[hk2]at hro
    have hro:(HT d:Int)=1:=by simpa using hro
    rw[if_neg (by omega),if_neg (fun h=>absurd (Int.ofNat_le.1 AA) (Nat.not_le.2 h))]at h1
    exact AH hc [.tmp 2] rfl (.inl rfl) (by simp) (by rw[h1];first|exact eR|refine Aw ?_)
end
/- Functions of grammarlabref03: Above. -/
section
attribute [local go_sem] Gc D5 M2
def Kx (o:List ByteArray) (s:ByteArray):List ByteArray:=if Ad o s=true then o else o++[s]
def Ky (d:List AK) (s:ByteArray):List ByteArray:=(d.getD (BB d s).toNat d0).2.1
def Jl (d:List AK):Nat→Nat→List ByteArray→List ByteArray
 | 0,_,o=>o
 | n+1,i,o=>if i<o.length then Jl d n (i+1) ((Ky d (o.getD i ByteArray.empty)).foldl Kx o) else o
def Kz (l:List ByteArray):List ByteArray:=l.foldl D6 []
theorem Vg (l:List ByteArray):(Kz l).length≤l.length:=by
 have key:∀(l o:List ByteArray),(l.foldl D6 o).length≤o.length+l.length:=by
  intro l
  induction l with
  | nil=>intro o;simp
  | cons x l ih =>
   intro o
   have h1:=ih (D6 o x)
   have h2:=Kw o x
   simp only[List.foldl_cons,List.length_cons]
   omega
 have:=key l []
 simpa[Kz] using this
def M5 (d:List AK) (s:ByteArray):List ByteArray:=if BB d s<0 then [] else Kz (Jl d d.length 0 [s])
def S3 (d:List AK):Prop:=∀x∈d,∀s∈x.2.1,0≤BB d s
theorem Vh (s:ByteArray):∀(l:List AK) (k:Nat),Cd s k l=-1∨((k:Int)≤Cd s k l∧Cd s k l<(k:Int)+l.length∧Ar (l.getD ((Cd s k l).toNat-k) d0).1 s=true)
 | [],_=>.inl rfl
 | x :: l,k=>by
  simp only[Cd]
  split
  ·rename_i h
   right
   refine⟨by omega,by simp only[List.length_cons];omega,?_⟩
   have:((k:Int).toNat-k)=0:=by omega
   rw[this]
   exact h
  ·rcases Vh s l (k+1) with h|⟨h1,h2,h3⟩
   ·exact .inl h
   ·right
    refine⟨by omega,by simp only[List.length_cons];omega,?_⟩
    have:((Cd s (k+1) l).toNat-k)=((Cd s (k+1) l).toNat-(k+1))+1:=by omega
    rw[this]
    exact h3
theorem DS (d:List AK) (s:ByteArray):BB d s<0∨(0≤BB d s∧BB d s<(d.length:Int)∧Ar (d.getD (BB d s).toNat d0).1 s=true):=by
 rcases Vh s d 0 with h|⟨h1,h2,h3⟩
 ·left;show Cd s 0 d<0;omega
 ·have h2:BB d s<((0:Nat):Int)+d.length:=h2
  exact .inr ⟨h1,by omega,h3⟩
theorem I4 {a b:ByteArray}:Ar a b=true↔a.toList=b.toList:=by unfold Ar;simp
theorem E2 {a b:ByteArray} (h:Ar a b=true):Ar b a=true:=I4.2 (I4.1 h).symm
theorem CA {a b c:ByteArray} (h:Ar a b=true) (g:Ar b c=true):Ar a c=true:=I4.2 ((I4.1 h).trans (I4.1 g))
structure YX (d:List AK) (o:List ByteArray):Prop where
 decl:∀s∈o,0≤BB d s
 nd:o.Pairwise fun a b=>Ar a b=false
theorem Jm (d:List AK):∀ {o:List ByteArray},YX d o→(o.map fun s=>(BB d s).toNat).Nodup
 | [],_=>by simp
 | s :: o,h=>by
  rw[List.map_cons,List.nodup_cons]
  have hnd:=List.pairwise_cons.1 h.nd
  refine⟨fun hm=>?_,Jm d ⟨fun x hx=>h.decl x (by simp[hx]),hnd.2⟩⟩
  obtain⟨x,hx,e⟩:=List.mem_map.1 hm
  have h1:=h.decl s (by simp)
  have h2:=h.decl x (by simp[hx])
  rcases DS d s with g|⟨_,_,g1⟩
  ·omega
  ·rcases DS d x with g|⟨_,_,g2⟩
   ·omega
   ·rw[e]at g2
    have:=hnd.1 x hx
    rw[CA (E2 g1) g2]at this
    cases this
theorem YX.len {d:List AK} {o:List ByteArray} (h:YX d o):o.length≤d.length:=by
 have:=EY d.length (o.map fun s=>(BB d s).toNat) (Jm d h) (fun j hj=>by
  obtain⟨s,hs,rfl⟩:=List.mem_map.1 hj
  have h1:=h.decl s hs
  rcases DS d s with g|⟨_,g,_⟩<;>omega)
 simpa using this
theorem OU {o:List ByteArray} {s:ByteArray} (h:Ad o s=false):∀x∈o,Ar x s=false:=fun x hx=>by
 cases hh:Ar x s with
 | false=>rfl
 | true=>exact absurd h (by rw[show Ad o s=true from List.any_eq_true.2 ⟨x,hx,hh⟩];simp)
theorem nT {d:List AK} {o:List ByteArray} (h:YX d o) {s:ByteArray} (hs:0≤BB d s):YX d (Kx o s):=by
 unfold Kx
 split
 ·exact h
 ·rename_i hc
  have hc:Ad o s=false:=by simpa using hc
  refine⟨fun x hx=>?_,?_⟩
  ·rcases List.mem_append.1 hx with hx|hx
   ·exact h.decl x hx
   ·have:x=s:=by simpa using hx
    rw[this];exact hs
  ·rw[List.pairwise_append]
   refine⟨h.nd,by simp,fun a ha b hb=>?_⟩
   have:b=s:=by simpa using hb
   rw[this]
   exact OU hc a ha
theorem ZZ {d:List AK}:∀ {l o:List ByteArray},(∀s∈l,0≤BB d s)→YX d o→YX d (l.foldl Kx o)∧o.length≤(l.foldl Kx o).length
 | [],o,_,h=>⟨h,Nat.le_refl _⟩
 | s :: l,o,hl,h=>by
  obtain⟨g1,g2⟩:=ZZ (l:=l) (fun x hx=>hl x (by simp[hx])) (nT h (hl s (by simp)))
  refine⟨g1,Nat.le_trans ?_ g2⟩
  unfold Kx
  split<;>simp
theorem Za {d:List AK} (hd:S3 d) (s:ByteArray):∀x∈Ky d s,0≤BB d x:=by
 intro x hx
 unfold Ky at hx
 by_cases h:(BB d s).toNat<d.length
 ·exact hd _ (AD d d0 h) x hx
 ·rw[List.getD_eq_getElem?_getD,List.getElem?_eq_none (by omega)]at hx
  cases hx
def XZ:Af:={ ins:=[Ec,T9],pre:=fun(d,_,_)=>S3 d∧List.length d≤256,out:=fun(d,s,_)=>[.p Bo (M5 d s)] }
theorem wI:Al Tryz.prog 209 XZ:=by
 refine AU Tryz.func209 (by kernel_rfl) rfl Tryz.ntmps209 (by decide) (by kernel_rfl) (AG [(206,Gc),(183,D5),(174,M2)]) (AF Kt (AF GQ (AF PX AJ))) ?_
 rintro w0 O0 ⟨d,s,u⟩ hc ⟨⟨hdl,hall⟩,-⟩ ⟨hsup,hd⟩
 have hd:d.length≤256:=hd
 simp only[XZ,AN]
 repeat'(first|exact trivial|refine eS rfl ?_|refine AB ?_|refine rX [0,1,4,5,6,7,8,9,10,14,20,36,45,56] hc ?_ ?_|refine rC ?_ ?_<;>intro AA<;>try(cases AA;done))
 ·have h1:M5 d s=[]:=by unfold M5;rw[if_pos AA]
  exact AH hc [.tmp 4] rfl (.inl rfl) (by simp) (by rw[h1];first|exact eR|refine Aw ?_)
 ·have h1:M5 d s=Kz (Jl d d.length 0 [s]):=by unfold M5;rw[if_neg (Int.not_lt.2 AA)]
  have hA0:YX d [s]:=⟨fun x hx=>by
   have:x=s:=by simpa using hx
   rw[this];exact AA,by simp⟩
  refine AL (ι:={x:Nat×List ByteArray//x.1≤x.2.length∧YX d x.2∧Jl d (d.length-x.1) x.1 x.2=Jl d d.length 0 [s]}) (fun x=>⟨[(0,.p Ec d),(1,.p T9 s),(5,.sr 16 T9 0 x.1.2.length),(6,.p (.int .i64) (x.1.1:Int))],[(16,.arr 9 T9 x.1.2)]⟩) (fun x=>d.length-x.1.1) ⟨(0,[s]),by simp,hA0,rfl⟩ (AC [(16,.nm 16)] rfl rfl ?_ ?_) (fun x=>?_)
  ·first|exact eN|refine eM ?_
  ·first|exact eN|refine eM ?_
  ·obtain⟨⟨i,o⟩,hi,hA,hg⟩:=x
   simp only at hi hA hg
   have hol:=hA.len
   simp only
   repeat'(first|exact trivial|refine eS rfl ?_|refine AB ?_|refine rX [0,1,4,5,6,7,8,9,10,14,20,36,45,56] hc ?_ ?_|refine rC ?_ ?_<;>intro AA<;>try(cases AA;done))
   ·have hi2:i<o.length:=by exact eV
    have hde:=hA.decl _ (AD o ByteArray.empty hi2)
    refine⟨AA,hde,?_⟩
    rcases DS d (o.getD i ByteArray.empty) with g|⟨_,g,_⟩
    ·omega
    ·exact g
   ·have hi2:i<o.length:=by exact eV
    have hde:=hA.decl _ (AD o ByteArray.empty hi2)
    have hsd:=Za hsup (o.getD i ByteArray.empty)
    have hnext:Jl d (d.length-(i+1)) (i+1) ((Ky d (o.getD i ByteArray.empty)).foldl Kx o)=Jl d d.length 0 [s]:=by
     rw[←hg]
     obtain⟨m,hm⟩:∃m,d.length-i=m+1:=⟨d.length-i-1,by omega⟩
     have hm2:d.length-(i+1)=m:=by omega
     rw[hm,hm2]
     show _=if i<o.length then Jl d m (i+1) ((Ky d (o.getD i ByteArray.empty)).foldl Kx o) else o
     rw[if_pos hi2]
    have hsl:(Ky d (o.getD i ByteArray.empty)).length≤AP:=by
     rcases DS d (o.getD i ByteArray.empty) with g|⟨_,g,_⟩
     ·omega
     ·exact(hall _ (AD d d0 (k:=(BB d (o.getD i ByteArray.empty)).toNat) (by omega))).2.1.1
    have hsu:(List.getD d (BB d (o.getD i ByteArray.empty)).toNat (ByteArray.empty,[],[])).2.1=Ky d (o.getD i ByteArray.empty):=rfl
    rw[hsu]
    generalize Ky d (o.getD i ByteArray.empty)=sup at *
    simp only[AP]at hsl
    refine AL (ι:={k:Nat//k≤sup.length}) (fun k=>⟨[(0,.p Ec d),(1,.p T9 s),(5,.sr 16 T9 0 ((sup.take k.1).foldl Kx o).length),(6,.p (.int .i64) (i:Int)),(7,.p Bo sup),(8,.p (.int .i64) (k.1:Int))],[(16,.arr 9 T9 ((sup.take k.1).foldl Kx o))]⟩) (fun k=>sup.length-k.1) ⟨0,Nat.zero_le _⟩ (AC [(16,.nm 16)] rfl rfl ?_ ?_) (fun k=>?_)
    ·first|exact eN|refine eM ?_
     rfl
    ·first|exact eN|refine eM ?_
     rfl
    ·obtain⟨k,hk⟩:=k
     have hok:=ZZ (l:=sup.take k) (o:=o) (fun x hx=>hsd x (List.mem_of_mem_take hx)) hA
     have hok2:=hok.1.len
     have hstep:=fun h:k<sup.length=>EZ Kx sup ByteArray.empty o h
     simp only
     generalize ho2:(sup.take k).foldl Kx o=o2 at *
     repeat'(first|exact trivial|refine eS rfl ?_|refine AB ?_|refine rX [0,1,4,5,6,7,8,9,10,14,20,36,45,56] hc ?_ ?_|refine rC ?_ ?_<;>intro AA<;>try(cases AA;done))
     ·exact AA
     ·refine⟨by exact eV,?_⟩
      simp only[AP]
      dsimp only[Ty.den]at *
      omega
     ·exact eV
     ·have hk2:k<sup.length:=by exact eV
      have e:=hstep hk2
      have e2:Kx o2 (sup.getD k ByteArray.empty)=o2++[sup.getD k ByteArray.empty]:=by unfold Kx;rw[if_neg (by rw[AA];simp)]
      rw[e2]at e
      refine⟨⟨k+1,by omega⟩,by simp only;omega,AC [(16,.nm 16)] rfl rfl ?_ ?_⟩
      ·simp only[e]
       first|exact eN|refine eM ?_
      ·simp only[e]
       first|exact eN|refine eM ?_
     ·exact eV
     ·have hk2:k<sup.length:=by exact eV
      have e:=hstep hk2
      have e2:Kx o2 (sup.getD k ByteArray.empty)=o2:=by unfold Kx;rw[if_pos AA]
      rw[e2]at e
      refine⟨⟨k+1,by omega⟩,by simp only;omega,AC [(16,.nm 16)] rfl rfl ?_ ?_⟩
      ·simp only[e]
       first|exact eN|refine eM ?_
      ·simp only[e]
       first|exact eN|refine eM ?_
     ·exact eV
     ·have hk2:sup.take k=sup:=List.take_of_length_le (by exact eV)
      rw[hk2]at ho2
      rw[ho2]at hnext
      have hok1:=hok.1
      have hokl:=hok.2
      refine⟨⟨(i+1,o2),by simp only;omega,hok1,hnext⟩,by simp only;omega,AC [(16,.nm 16)] rfl rfl ?_ ?_⟩
      ·first|exact eN|refine eM ?_
      ·first|exact eN|refine eM ?_
   ·have hoe:o=Jl d d.length 0 [s]:=by
     rw[←hg]
     cases hm:d.length-i with
     | zero=>rfl
     | succ m =>
      show _=if i<o.length then _ else o
      rw[if_neg (by exact eV)]
    rw[←hoe]at h1
    refine AL (ι:={j:Nat//j≤o.length}) (fun j=>⟨[(0,.p Ec d),(5,.sr 16 T9 0 o.length),(9,.p Bo ((o.take j.1).foldl D6 [])),(10,.p (.int .i64) (j.1:Int))],[(16,.arr 9 T9 o)]⟩) (fun j=>o.length-j.1) ⟨0,Nat.zero_le _⟩ (AC [(16,.nm 16)] rfl rfl ?_ ?_) (fun j=>?_)
    ·first|exact eN|refine eM ?_
    ·first|exact eN|refine eM ?_
     rfl
    ·obtain⟨j,hj⟩:=j
     have hsj:=fun h:j<o.length=>EZ D6 o ByteArray.empty [] h
     simp only
     repeat'(first|exact trivial|refine eS rfl ?_|refine AB ?_|refine rX [0,1,4,5,6,7,8,9,10,14,20,36,45,56] hc ?_ ?_|refine rC ?_ ?_<;>intro AA<;>try(cases AA;done))
     ·refine⟨AA,?_⟩
      have:=Vg (o.take j)
      have h3:=List.length_take_le j o
      unfold Kz at this
      dsimp only[Ty.den]at *
      omega
     ·exact eV
     ·have hj2:j<o.length:=by exact eV
      have e:=hsj hj2
      refine⟨⟨j+1,by omega⟩,by simp only;omega,AC [(16,.nm 16)] rfl rfl ?_ ?_⟩
      ·first|exact eN|refine eM ?_
      ·simp only[e]
       first|exact eN|refine eM ?_
     ·have hj2:o.take j=o:=List.take_of_length_le (by exact eV)
      rw[hj2]
      exact AH hc [.tmp 4] rfl (.inl rfl) (by simp) (by rw[h1];unfold Kz;first|exact eR|refine Aw ?_)
end
/- Functions of grammarlabref03: Below. -/
section
attribute [local go_sem] Gc D5 M2
def FK (s:ByteArray) (o:List ByteArray) (x:AK):List ByteArray:=if (Ad x.2.1 s&&!Ad o x.1)=true then o++[x.1] else o
def De (d:List AK):Nat→Nat→List ByteArray→List ByteArray
 | 0,_,o=>o
 | n+1,i,o=>if i<o.length then De d n (i+1) (d.foldl (FK (o.getD i ByteArray.empty)) o) else o
def Df (d:List AK) (s:ByteArray):List ByteArray:=if BB d s<0 then [] else Kz (De d d.length 0 [s])
theorem S4 (s:ByteArray):∀(l:List AK) (k:Nat) (x:AK),x∈l→Ar x.1 s=true→0≤Cd s k l
 | y :: l,k,x,hx,h=>by
  simp only[Cd]
  split
  ·omega
  ·rename_i hc
   rcases List.mem_cons.1 hx with rfl|hx
   ·exact absurd h hc
   ·exact S4 s l (k+1) x hx h
theorem E3 {d:List AK} {x:AK} (hx:x∈d):0≤BB d x.1:=S4 x.1 d 0 x hx (E1 _)
theorem A1J {d:List AK} {o:List ByteArray} (h:YX d o) (s:ByteArray) {x:AK} (hx:x∈d):YX d (FK s o x):=by
 unfold FK
 split
 ·rename_i hc
  rw[Bool.and_eq_true,Bool.not_eq_true']at hc
  have:=nT h (E3 hx)
  unfold Kx at this
  rwa [if_neg (by rw[hc.2];simp)]at this
 ·exact h
theorem S5 {d:List AK} (s:ByteArray):∀ {l:List AK} {o:List ByteArray},(∀x∈l,x∈d)→YX d o→YX d (l.foldl (FK s) o)∧o.length≤(l.foldl (FK s) o).length
 | [],o,_,h=>⟨h,Nat.le_refl _⟩
 | x :: l,o,hl,h=>by
  obtain⟨g1,g2⟩:=S5 s (l:=l) (fun y hy=>hl y (by simp[hy])) (A1J h s (hl x (by simp)))
  refine⟨g1,Nat.le_trans ?_ g2⟩
  unfold FK
  split<;>simp
theorem Pa (s:ByteArray) {i:Nat}:∀ {l:List AK} {o:List ByteArray},i<o.length→(l.foldl (FK s) o).getD i ByteArray.empty=o.getD i ByteArray.empty
 | [],_,_=>rfl
 | x :: l,o,h=>by
  have h2:i<(FK s o x).length∧(FK s o x).getD i ByteArray.empty=o.getD i ByteArray.empty:=by
   unfold FK
   split
   ·refine⟨by rw[List.length_append];omega,?_⟩
    simp only[List.getD_eq_getElem?_getD]
    rw[List.getElem?_append_left h]
   ·exact⟨h,rfl⟩
  rw[List.foldl_cons,Pa s h2.1,h2.2]
def S6:Af:={ ins:=[Ec,T9],pre:=fun(d,_,_)=>List.length d≤256,out:=fun(d,s,_)=>[.p Bo (Df d s)] }
attribute [local go_sem] S6
theorem wJ:Al Tryz.prog 182 S6:=by
 refine AU Tryz.func182 (by kernel_rfl) rfl Tryz.ntmps182 (by decide) (by kernel_rfl) (AG [(206,Gc),(183,D5),(174,M2)]) (AF Kt (AF GQ (AF PX AJ))) ?_
 rintro w0 O0 ⟨d,s,u⟩ hc-hd
 have hd:d.length≤256:=hd
 simp only[S6,AN]
 repeat'(first|exact trivial|refine eS rfl ?_|refine AB ?_|refine rX [0,1,4,5,6,7,8,9,13,19,25,47,59] hc ?_ ?_|refine rC ?_ ?_<;>intro AA<;>try(cases AA;done))
 ·have h1:Df d s=[]:=by unfold Df;rw[if_pos AA]
  exact AH hc [.tmp 4] rfl (.inl rfl) (by simp) (by rw[h1];first|exact eR|refine Aw ?_)
 ·have h1:Df d s=Kz (De d d.length 0 [s]):=by unfold Df;rw[if_neg (Int.not_lt.2 AA)]
  have hA0:YX d [s]:=⟨fun x hx=>by
   have:x=s:=by simpa using hx
   rw[this];exact AA,by simp⟩
  refine AL (ι:={x:Nat×List ByteArray//x.1≤x.2.length∧YX d x.2∧De d (d.length-x.1) x.1 x.2=De d d.length 0 [s]}) (fun x=>⟨[(0,.p Ec d),(5,.sr 15 T9 0 x.1.2.length),(6,.p (.int .i64) (x.1.1:Int))],[(15,.arr 9 T9 x.1.2)]⟩) (fun x=>d.length-x.1.1) ⟨(0,[s]),by simp,hA0,rfl⟩ (AC [(15,.nm 15)] rfl rfl ?_ ?_) (fun x=>?_)
  ·first|exact eN|refine eM ?_
  ·first|exact eN|refine eM ?_
  ·obtain⟨⟨i,o⟩,hi,hA,hg⟩:=x
   simp only at hi hA hg
   have hol:=hA.len
   simp only
   repeat'(first|exact trivial|refine eS rfl ?_|refine AB ?_|refine rX [0,1,4,5,6,7,8,9,13,19,25,47,59] hc ?_ ?_|refine rC ?_ ?_<;>intro AA<;>try(cases AA;done))
   ·have hi2:i<o.length:=by exact eV
    have hnext:De d (d.length-(i+1)) (i+1) (d.foldl (FK (o.getD i ByteArray.empty)) o)=De d d.length 0 [s]:=by
     rw[←hg]
     obtain⟨m,hm⟩:∃m,d.length-i=m+1:=⟨d.length-i-1,by omega⟩
     have hm2:d.length-(i+1)=m:=by omega
     rw[hm,hm2]
     show _=if i<o.length then De d m (i+1) (d.foldl (FK (o.getD i ByteArray.empty)) o) else o
     rw[if_pos hi2]
    refine AL (ι:={k:Nat//k≤d.length}) (fun k=>⟨[(0,.p Ec d),(5,.sr 15 T9 0 ((d.take k.1).foldl (FK (o.getD i ByteArray.empty)) o).length),(6,.p (.int .i64) (i:Int)),(7,.p (.int .i64) (k.1:Int))],[(15,.arr 9 T9 ((d.take k.1).foldl (FK (o.getD i ByteArray.empty)) o))]⟩) (fun k=>d.length-k.1) ⟨0,Nat.zero_le _⟩ (AC [(15,.nm 15)] rfl rfl ?_ ?_) (fun k=>?_)
    ·first|exact eN|refine eM ?_
     rfl
    ·first|exact eN|refine eM ?_
     rfl
    ·obtain⟨k,hk⟩:=k
     have hok:=S5 (o.getD i ByteArray.empty) (l:=d.take k) (o:=o) (fun x hx=>List.mem_of_mem_take hx) hA
     have hok2:=hok.1.len
     have hstep:=fun h:k<d.length=>EZ (FK (o.getD i ByteArray.empty)) d d0 o h
     have hpre:((d.take k).foldl (FK (o.getD i ByteArray.empty)) o).getD i ByteArray.empty=o.getD i ByteArray.empty:=Pa _ hi2
     simp only
     generalize ho2:(d.take k).foldl (FK (o.getD i ByteArray.empty)) o=o2 at *
     repeat'(first|exact trivial|refine eS rfl ?_|refine AB ?_|refine rX [0,1,4,5,6,7,8,9,13,19,25,47,59] hc ?_ ?_|refine rC ?_ ?_<;>intro AA<;>try(cases AA;done))
     ·have hl:=hok.2
      refine⟨AA,?_,fun _=>AA⟩
      dsimp only[Ty.den]at *
      omega
     ·refine⟨by assumption,?_⟩
      simp only[AP]
      dsimp only[Ty.den]at *
      omega
     ·exact eV
     ·have hk2:k<d.length:=by exact eV
      have e:=hstep hk2
      rw[hpre]at AA
      have e2:FK (o.getD i ByteArray.empty) o2 (d.getD k d0)=o2++[(d.getD k d0).1]:=by
       unfold FK;rw[if_pos (by rw[Bool.and_eq_true,Bool.not_eq_true'];exact AA)]
      rw[e2]at e
      refine⟨⟨k+1,by omega⟩,by simp only;omega,AC [(15,.nm 15)] rfl rfl ?_ ?_⟩
      ·simp only[e]
       first|exact eN|refine eM ?_
      ·simp only[e]
       first|exact eN|refine eM ?_
     ·exact eV
     ·have hk2:k<d.length:=by exact eV
      have e:=hstep hk2
      rw[hpre]at AA
      have e2:FK (o.getD i ByteArray.empty) o2 (d.getD k d0)=o2:=by
       unfold FK
       rw[if_neg]
       rw[Bool.and_eq_true,Bool.not_eq_true']
       rintro⟨h1,h2⟩
       rw[AA h1]at h2
       cases h2
      rw[e2]at e
      refine⟨⟨k+1,by omega⟩,by simp only;omega,AC [(15,.nm 15)] rfl rfl ?_ ?_⟩
      ·simp only[e]
       first|exact eN|refine eM ?_
      ·simp only[e]
       first|exact eN|refine eM ?_
     ·exact eV
     ·have hk2:d.take k=d:=List.take_of_length_le (by exact eV)
      rw[hk2]at ho2
      rw[ho2]at hnext
      have hok1:=hok.1
      have hokl:=hok.2
      refine⟨⟨(i+1,o2),by simp only;omega,hok1,hnext⟩,by simp only;omega,AC [(15,.nm 15)] rfl rfl ?_ ?_⟩
      ·first|exact eN|refine eM ?_
      ·first|exact eN|refine eM ?_
   ·have hoe:o=De d d.length 0 [s]:=by
     rw[←hg]
     cases hm:d.length-i with
     | zero=>rfl
     | succ m =>
      show _=if i<o.length then _ else o
      rw[if_neg (by exact eV)]
    rw[←hoe]at h1
    refine AL (ι:={j:Nat//j≤o.length}) (fun j=>⟨[(0,.p Ec d),(5,.sr 15 T9 0 o.length),(8,.p Bo ((o.take j.1).foldl D6 [])),(9,.p (.int .i64) (j.1:Int))],[(15,.arr 9 T9 o)]⟩) (fun j=>o.length-j.1) ⟨0,Nat.zero_le _⟩ (AC [(15,.nm 15)] rfl rfl ?_ ?_) (fun j=>?_)
    ·first|exact eN|refine eM ?_
    ·first|exact eN|refine eM ?_
     rfl
    ·obtain⟨j,hj⟩:=j
     have hsj:=fun h:j<o.length=>EZ D6 o ByteArray.empty [] h
     simp only
     repeat'(first|exact trivial|refine eS rfl ?_|refine AB ?_|refine rX [0,1,4,5,6,7,8,9,13,19,25,47,59] hc ?_ ?_|refine rC ?_ ?_<;>intro AA<;>try(cases AA;done))
     ·refine⟨AA,?_⟩
      have:=Vg (o.take j)
      have h3:=List.length_take_le j o
      unfold Kz at this
      dsimp only[Ty.den]at *
      omega
     ·exact eV
     ·have hj2:j<o.length:=by exact eV
      have e:=hsj hj2
      refine⟨⟨j+1,by omega⟩,by simp only;omega,AC [(15,.nm 15)] rfl rfl ?_ ?_⟩
      ·first|exact eN|refine eM ?_
      ·simp only[e]
       first|exact eN|refine eM ?_
     ·have hj2:o.take j=o:=List.take_of_length_le (by exact eV)
      rw[hj2]
      exact AH hc [.tmp 4] rfl (.inl rfl) (by simp) (by rw[h1];unfold Kz;first|exact eR|refine Aw ?_)
end
/- Functions of grammarlabref03: declared, Maximal. -/
section
attribute [local go_sem] Gc M2 XZ D5
def KA (d:List AK) (o:List ByteArray) (x:ByteArray):List ByteArray:=if 0≤BB d x then D6 o x else o
def CW (d:List AK) (l:List ByteArray):List ByteArray:=l.foldl (KA d) []
theorem IV (d:List AK) (l:List ByteArray):(CW d l).length≤l.length:=by
 have key:∀(l o:List ByteArray),(l.foldl (KA d) o).length≤o.length+l.length:=by
  intro l
  induction l with
  | nil=>intro o;simp
  | cons x l ih =>
   intro o
   have h1:=ih (KA d o x)
   have h2:(KA d o x).length≤o.length+1:=by
    unfold KA
    split
    ·exact Kw o x
    ·omega
   simp only[List.foldl_cons,List.length_cons]
   omega
 have:=key l []
 simpa[CW] using this
def L1:Af:={ ins:=[Ec,Bo],pre:=fun(_,l,_)=>List.length l≤100000,out:=fun(d,l,_)=>[.p Bo (CW d l)] }
attribute [local go_sem] L1
theorem Zb:Al Tryz.prog 208 L1:=by
 refine AU Tryz.func208 (by kernel_rfl) rfl Tryz.ntmps208 (by decide) (by kernel_rfl) (AG [(206,Gc),(174,M2)]) (AF Kt (AF PX AJ)) ?_
 rintro w0 O0 ⟨d,l,u⟩ hc-hl
 have hl:l.length≤100000:=hl
 simp only[L1,AN]
 repeat'(first|exact trivial|refine eS rfl ?_|refine AB ?_|refine rX [0,1,4,5,6,10,19] hc ?_ ?_|refine rC ?_ ?_<;>intro AA<;>try(cases AA;done))
 refine AL (ι:={k:Nat//k≤l.length}) (fun k=>⟨[(0,.p Ec d),(1,.p Bo l),(5,.p Bo (CW d (l.take k.1))),(6,.p (.int .i64) (k.1:Int))],[]⟩) (fun k=>l.length-k.1) ⟨0,Nat.zero_le _⟩ (AC [] rfl rfl ?_ ?_) (fun k=>?_)
 ·first|exact eN|refine eM ?_
 ·first|exact eN|refine eM ?_
  rfl
 ·obtain⟨k,hk⟩:=k
  have hn:=IV d (l.take k)
  have hn2:=List.length_take_le k l
  have hs:=fun h:k<l.length=>EZ (KA d) l ByteArray.empty [] h
  simp only
  repeat'(first|exact trivial|refine eS rfl ?_|refine AB ?_|refine rX [0,1,4,5,6,10,19] hc ?_ ?_|refine rC ?_ ?_<;>intro AA<;>try(cases AA;done))
  ·exact AA
  ·exact⟨by assumption,by omega⟩
  ·exact eV
  ·have hk2:k<l.length:=by exact eV
   have e:CW d (l.take (k+1))=KA d (CW d (l.take k)) (l.getD k ByteArray.empty):=hs hk2
   unfold KA at e
   rw[if_pos AA]at e
   refine⟨⟨k+1,by omega⟩,by simp only;omega,AC [] rfl rfl ?_ ?_⟩
   ·first|exact eN|refine eM ?_
   ·simp only[e]
    first|exact eN|refine eM ?_
  ·exact eV
  ·have hk2:k<l.length:=by exact eV
   have e:CW d (l.take (k+1))=KA d (CW d (l.take k)) (l.getD k ByteArray.empty):=hs hk2
   unfold KA at e
   rw[if_neg (Int.not_le.2 AA)]at e
   refine⟨⟨k+1,by omega⟩,by simp only;omega,AC [] rfl rfl ?_ ?_⟩
   ·first|exact eN|refine eM ?_
   ·simp only[e]
    first|exact eN|refine eM ?_
  ·have hk2:l.take k=l:=List.take_of_length_le (by exact eV)
   rw[hk2]
   exact AH hc [.tmp 4] rfl (.inl rfl) (by simp) (by first|exact eR|refine Aw ?_)
def wK (d:List AK) (all:List ByteArray) (i:Nat) (k:Nat):Bool:=(k:Int)==(i:Int)||!Ad (M5 d (all.getD i ByteArray.empty)) (all.getD k ByteArray.empty)
def Vi (d:List AK) (all:List ByteArray) (i n:Nat):Bool:=(List.range n).all (wK d all i)
def RQ (d:List AK) (all:List ByteArray) (n:Nat):List ByteArray:=((List.range n).filter fun i=>Vi d all i all.length).map fun i=>all.getD i ByteArray.empty
def Bw (d:List AK) (l:List ByteArray):List ByteArray:=RQ d (CW d l) (CW d l).length
theorem qZ (d:List AK) (all:List ByteArray) (n:Nat):RQ d all (n+1)=RQ d all n++if Vi d all n all.length=true then [all.getD n ByteArray.empty] else []:=by
 unfold RQ
 rw[List.range_succ,List.filter_append,List.map_append]
 congr 1
 rw[List.filter_cons,List.filter_nil]
 split<;>rfl
theorem Zc (d:List AK) (all:List ByteArray) (n:Nat):(RQ d all n).length≤n:=by
 unfold RQ
 rw[List.length_map]
 exact Nat.le_trans (List.length_filter_le _ _) (by simp)
theorem dP (d:List AK) (all:List ByteArray) (i n:Nat):Vi d all i (n+1)=(Vi d all i n&&wK d all i n):=by
 unfold Vi
 rw[List.range_succ,List.all_append]
 simp
def HV:Af:={ ins:=[Ec,Bo],pre:=fun(d,l,_)=>S3 d∧List.length d≤256∧List.length l≤100000,out:=fun(d,l,_)=>[.p Bo (Bw d l)] }
attribute [local go_sem] HV
theorem S7:Al Tryz.prog 188 HV:=by
 refine AU Tryz.func188 (by kernel_rfl) rfl Tryz.ntmps188 (by decide) (by kernel_rfl) (AG [(208,L1),(209,XZ),(183,D5)]) (AF Zb (AF wI (AF GQ AJ))) ?_
 rintro w0 O0 ⟨d,l,u⟩ hc-⟨hsup,hd,hl⟩
 have hd:d.length≤256:=hd
 have hl:l.length≤100000:=hl
 have hml:Bw d l=RQ d (CW d l) (CW d l).length:=rfl
 have hal:=IV d l
 simp only[HV,AN]
 repeat'(first|exact trivial|refine eS rfl ?_|refine AB ?_|refine rX [0,1,4,5,6,7,8,9,10,17,29,47] hc ?_ ?_|refine rC ?_ ?_<;>intro AA<;>try(cases AA;done))
 ·exact hl
 ·rw[hml]
  generalize CW d l=all at *
  refine AL (ι:={i:Nat//i≤all.length}) (fun i=>⟨[(0,.p Ec d),(5,.sr 54 T9 0 (RQ d all i.1).length),(6,.p Bo all),(7,.p (.int .i64) (i.1:Int))],[(54,.arr 9 T9 (RQ d all i.1))]⟩) (fun i=>all.length-i.1) ⟨0,Nat.zero_le _⟩ (AC [(54,.nil)] rfl rfl ?_ ?_) (fun i=>?_)
  ·first|exact eN|refine eM ?_
   rfl
  ·first|exact eN|refine eM ?_
   rfl
  ·obtain⟨i,hi⟩:=i
   have hgl:=Zc d all i
   have hgs:=qZ d all i
   simp only
   repeat'(first|exact trivial|refine eS rfl ?_|refine AB ?_|refine rX [0,1,4,5,6,7,8,9,10,17,29,47] hc ?_ ?_|refine rC ?_ ?_<;>intro AA<;>try(cases AA;done))
   ·exact⟨AA,hsup,hd⟩
   ·have hi2:i<all.length:=by exact eV
    refine AL (ι:={k:Nat//k≤all.length}) (fun k=>⟨[(0,.p Ec d),(5,.sr 54 T9 0 (RQ d all i).length),(6,.p Bo all),(7,.p (.int .i64) (i:Int)),(8,.p Bo (M5 d (all.getD i ByteArray.empty))),(9,.p .bool (Vi d all i k.1)),(10,.p (.int .i64) (k.1:Int))],[(54,.arr 9 T9 (RQ d all i))]⟩) (fun k=>all.length-k.1) ⟨0,Nat.zero_le _⟩ (AC [(54,.nm 54)] rfl rfl ?_ ?_) (fun k=>?_)
    ·first|exact eN|refine eM ?_
    ·first|exact eN|refine eM ?_
     rfl
    ·obtain⟨k,hk⟩:=k
     have hfs:=dP d all i k
     simp only
     repeat'(first|exact trivial|refine eS rfl ?_|refine AB ?_|refine rX [0,1,4,5,6,7,8,9,10,17,29,47] hc ?_ ?_|refine rC ?_ ?_<;>intro AA<;>try(cases AA;done))
     ·exact fun _=>AA
     ·exact eV
     ·have hk2:k<all.length:=by exact eV
      refine⟨⟨k+1,by omega⟩,by simp only;omega,AC [(54,.nm 54)] rfl rfl ?_ ?_⟩
      ·first|exact eN|refine eM ?_
      ·simp only[hfs]
       unfold wK
       first|exact eN|refine eM ?_
     ·refine⟨by assumption,?_⟩
      simp only[AP]
      omega
     ·exact eV
     ·have hk2:k=all.length:=by exact eV
      subst hk2
      rw[AA,if_pos rfl]at hgs
      refine⟨⟨i+1,by omega⟩,by simp only;omega,AC [(54,.nm 54)] rfl rfl ?_ ?_⟩
      ·simp only[hgs]
       first|exact eN|refine eM ?_
      ·simp only[hgs]
       first|exact eN|refine eM ?_
     ·exact eV
     ·have hk2:k=all.length:=by exact eV
      subst hk2
      rw[AA,if_neg (by simp),List.append_nil]at hgs
      refine⟨⟨i+1,by omega⟩,by simp only;omega,AC [(54,.nm 54)] rfl rfl ?_ ?_⟩
      ·simp only[hgs]
       first|exact eN|refine eM ?_
      ·simp only[hgs]
       first|exact eN|refine eM ?_
   ·have hi2:i=all.length:=by exact eV
    subst hi2
    refine Gr [54] ?_
    exact AH hc [.tmp 4] rfl (.inl rfl) (by simp) (by first|exact eR|refine Aw ?_)
end
/- Functions of grammarlabref02: Of. -/
section
attribute [local go_sem] Fa
def q9 (b:List Int) (x:Int):List Int:=b.set (x.tdiv 64).toNat (CS .or .u64 (b.getD (x.tdiv 64).toNat 0) (Wl .u64 1 (x.tmod 64)))
def tP (l:List Int):List Int:=l.foldl q9 (List.replicate 64 0)
def okB (x:Int):Bool:=!(decide (x<0)||decide (4095<x))
def zQ (l:List Int):List Int×Int:=if l.all okB=true then (BH (tP l),0) else ([],2)
theorem OV (l:List Int):(tP l).length=64:=by
 have key:∀(l b:List Int),(l.foldl q9 b).length=b.length:=by
  intro l
  induction l with
  | nil=>intro b;rfl
  | cons x l ih =>
   intro b
   rw[List.foldl_cons,ih]
   simp[q9]
 unfold tP
 rw[key]
 simp
def ofS:Af:={ ins:=[Ek],pre:=fun _=>True,out:=fun(l,_)=>[.p BA (zQ l).1,.p ZO (zQ l).2] }
theorem A6W:Al Tryz.prog 184 ofS:=by
 refine AU Tryz.func184 (by kernel_rfl) rfl Tryz.ntmps184 (by decide) (by kernel_rfl) (AG [(176,Fa)]) (AF Lz AJ) ?_
 rintro w0 O0 ⟨l,u⟩ hc ⟨⟨hl,-⟩,-⟩ -
 simp only[AP]at hl
 simp only[ofS,AN]
 repeat'(first|exact trivial|refine eS rfl ?_|refine AB ?_|refine rX [0,2,3,4,5,10,24] hc ?_ ?_|refine rC ?_ ?_<;>intro AA<;>try(cases AA;done))
 ·simp only[AP];omega
 ·refine AL (ι:={k:Nat//k≤l.length∧(l.take k).all okB=true}) (fun k=>⟨[(0,.p Ek l),(4,.sr 6 OO 0 (tP (l.take k.1)).length),(5,.p (.int .i64) (k.1:Int))],[(6,.arr 209 OO (tP (l.take k.1)))]⟩) (fun k=>l.length-k.1) ⟨0,Nat.zero_le _,rfl⟩ (AC [(6,.nm 6)] rfl rfl ?_ ?_) (fun k=>?_)
  ·first|exact eN|refine eM ?_
   rfl
  ·first|exact eN|refine eM ?_
   rfl
  ·obtain⟨k,hk,hf⟩:=k
   have hlen:=OV (l.take k)
   have hs:∀h:k<l.length,tP (l.take (k+1))=q9 (tP (l.take k)) (l.getD k 0):=fun h=>EZ q9 l 0 _ h
   simp only
   repeat'(first|exact trivial|refine eS rfl ?_|refine AB ?_|refine rX [0,2,3,4,5,10,24] hc ?_ ?_|refine rC ?_ ?_<;>intro AA<;>try(cases AA;done))
   ·exact⟨AA,fun _=>AA⟩
   ·have hk2:k<l.length:=by exact eV
    have h1:zQ l=([],2):=by
     unfold zQ
     rw[if_neg]
     intro h
     have:=List.all_eq_true.1 h _ (AD l 0 hk2)
     unfold okB at this
     rw[Bool.not_eq_true',Bool.or_eq_false_iff,decide_eq_false_iff_not,decide_eq_false_iff_not]at this
     rcases AA with h|h
     ·exact this.1 h
     ·exact this.2 h
    exact AH hc [.tmp 2,.tmp 3] rfl (.inl rfl) (by simp) (by rw[h1];first|exact eR|refine Aw ?_)
   ·obtain⟨h0,h1⟩:=AA
    have e1:Int.tdiv (l.getD k 0) 64=l.getD k 0 / 64:=Int.tdiv_eq_ediv_of_nonneg h0
    have e2:Int.tmod (l.getD k 0) 64=l.getD k 0 % 64:=Int.tmod_eq_emod_of_nonneg h0
    rw[e1,e2,hlen]
    refine⟨?_,⟨by decide,?_,?_⟩,?_,⟨by decide,?_,?_⟩,⟨?_,?_⟩,?_,⟨by decide,?_,?_⟩,⟨?_,?_⟩,?_,?_,?_⟩<;>exact eV
   ·exact eV
   ·have hk2:k<l.length:=by exact eV
    have e:=hs hk2
    refine⟨⟨k+1,by omega,?_⟩,by simp only;omega,AC [(6,.nm 6)] rfl rfl ?_ ?_⟩
    ·rw[I3 l 0 _ hk2,hf,Bool.true_and]
     unfold okB
     rw[Bool.not_eq_true',Bool.or_eq_false_iff,decide_eq_false_iff_not,decide_eq_false_iff_not]
     exact⟨Int.not_lt.2 AA.1,Int.not_lt.2 AA.2⟩
    ·simp only[e]
     first|exact eN|refine eM ?_
     rfl
    ·simp only[e]
     first|exact eN|refine eM ?_
     rw[←e,OV,OV]
   ·have hk2:l.take k=l:=List.take_of_length_le (by exact eV)
    rw[hk2]at hf ⊢
    have h1:zQ l=(BH (tP l),0):=by unfold zQ;rw[if_pos hf]
    have hlen2:=OV l
    refine Gr [6] ?_
    repeat'(first|exact trivial|refine eS rfl ?_|refine AB ?_|refine rX [0,2,3,4,5,10,24] hc ?_ ?_|refine rC ?_ ?_<;>intro AA<;>try(cases AA;done))
    ·rw[hlen2];decide
    ·exact AH hc [.tmp 2,.tmp 3] rfl (.inl rfl) (by simp) (by rw[h1];first|exact eR|refine Aw ?_)
end
/- Functions of grammarlabref04: in, Subsumes. -/
section
attribute [local go_sem] Md L0
def dQ (l:List (List Int)) (b:List Int):Bool:=l.any fun x=>HO x b
def A1L:Af:={ ins:=[RN,BA],pre:=fun _=>True,out:=fun(l,b,_)=>[.p .bool (dQ l b)],lend:=true }
theorem A3y:Al Tryz.prog 185 A1L:=by
 refine AU Tryz.func185 (by kernel_rfl) rfl Tryz.ntmps185 (by decide) (by kernel_rfl) (AG [(177,Md)]) (AF XW AJ) ?_
 rintro w0 O0 ⟨l,n,u⟩ hc ⟨⟨hl,-⟩,-⟩ -
 simp only[AP]at hl
 simp only[A1L,AN]
 repeat'(first|exact trivial|refine eS rfl ?_|refine AB ?_|refine rX [0,1,4,5,9,17] hc ?_ ?_|refine rC ?_ ?_<;>intro AA<;>try(cases AA;done))
 refine AL (ι:={k:Nat//k≤l.length∧(l.take k).any (fun x=>HO x n)=false}) (fun k=>⟨[(0,.p RN l),(1,.p BA n),(5,.p (.int .i64) (k.1:Int))],[]⟩) (fun k=>l.length-k.1) ⟨0,by simp⟩ (AC [] rfl rfl ?_ ?_) (fun k=>?_)
 ·first|exact eN|refine eM ?_
 ·first|exact eN|refine eM ?_
 ·obtain⟨k,hk,hany⟩:=k
  repeat'(first|exact trivial|refine eS rfl ?_|refine AB ?_|refine rX [0,1,4,5,9,17] hc ?_ ?_|refine rC ?_ ?_<;>intro AA<;>try(cases AA;done))
  ·exact eV
  ·have hkl:k<l.length:=by exact eV
   have h1:dQ l n=true:=GP l [] _ hkl AA
   exact AH hc [.tmp 4] rfl (.inl rfl) (by simp) (by rw[h1];first|exact eR|refine Aw ?_)
  ·exact eV
  ·have hkl:k<l.length:=by exact eV
   refine⟨⟨k+1,by exact eV,?_⟩,by simp only;exact eV,AC [] rfl rfl ?_ ?_⟩
   ·rw[Ly l [] _ hkl,hany];exact AA
   ·first|exact eN|refine eM ?_
   ·first|exact eN|refine eM ?_
  ·have hk:l.take k=l:=List.take_of_length_le (by exact eV)
   rw[hk]at hany
   have h1:dQ l n=false:=hany
   exact AH hc [.tmp 4] rfl (.inl rfl) (by simp) (by rw[h1];first|exact eR|refine Aw ?_)
abbrev AW:=ByteArray×List Int
abbrev c0:AW:=(ByteArray.empty,[])
def Mf (l:List AW) (i j:Int):Bool:=Ew (l.getD j.toNat c0).2 (l.getD i.toNat c0).2
def Vj:Af:={ ins:=[I2,T3,T3],pre:=fun(l,i,j,_)=>((0:Int)≤i∧i<(List.length l:Int))∧((0:Int)≤j∧j<(List.length l:Int))∧(∀x∈(l:List AW),x.2.length≤100000),out:=fun(l,i,j,_)=>[.p .bool (Mf l i j)],lend:=true }
theorem nU:Al Tryz.prog 139 Vj:=by
 refine AU Tryz.func139 (by kernel_rfl) rfl Tryz.ntmps139 (by decide) (by kernel_rfl) (AG [(190,L0)]) (AF Ve AJ) ?_
 rintro w0 O0 ⟨l,i,j,u⟩ hc-⟨hi,hj,hx⟩
 simp only[Vj,AN]
 repeat'(first|exact trivial|refine eS rfl ?_|refine AB ?_|refine rX [0,1,2,6] hc ?_ ?_|refine rC ?_ ?_<;>intro AA<;>try(cases AA;done))
 ·exact⟨hj,hi,hx _ (AD (l:List AW) c0 (by exact eV))⟩
 ·exact AH hc [.tmp 6] rfl (.inl rfl) (by simp) (by unfold Mf;first|exact eR|refine Aw ?_)
end
/- Functions of grammarlabref05: number. -/
section
attribute [local go_sem] Md
def Pb (s:ByteArray):Nat→List AW→Int
 | _,[]=>-1
 | k,x :: l=>if Ar x.1 s=true then (k:Int) else Pb s (k+1) l
def DJ (l:List AW) (s:ByteArray):Int:=Pb s 0 l
theorem Vk (s:ByteArray) (l:List AW) {k:Nat} (h:k<l.length):Pb s k (l.drop k)=if Ar (l.getD k c0).1 s=true then (k:Int) else Pb s (k+1) (l.drop (k+1)):=by
 rw[List.drop_eq_getElem_cons h]
 have e:l.getD k c0=l[k]:=by simp[List.getD_eq_getElem?_getD,h]
 rw[e]
 rfl
def L2:Af:={ ins:=[I2,T9],pre:=fun _=>True,out:=fun(l,s,_)=>[.p T3 (DJ l s)],lend:=true }
theorem Vl:Al Tryz.prog 141 L2:=by
 refine AU Tryz.func141 (by kernel_rfl) rfl Tryz.ntmps141 (by decide) (by kernel_rfl) (AG []) AJ ?_
 rintro w0 O0 ⟨l,s,u⟩ hc ⟨⟨hl,-⟩,-⟩ -
 simp only[AP]at hl
 simp only[L2,AN]
 repeat'(first|exact trivial|refine eS rfl ?_|refine AB ?_|refine rX [0,1,4,5,9,18] hc ?_ ?_|refine rC ?_ ?_<;>intro AA<;>try(cases AA;done))
 refine AL (ι:={k:Nat//k≤l.length∧Pb s k (l.drop k)=DJ l s}) (fun k=>⟨[(0,.p I2 l),(1,.p T9 s),(5,.p (.int .i64) (k.1:Int))],[]⟩) (fun k=>l.length-k.1) ⟨0,Nat.zero_le _,rfl⟩ (AC [] rfl rfl ?_ ?_) (fun k=>?_)
 ·first|exact eN|refine eM ?_
 ·first|exact eN|refine eM ?_
 ·obtain⟨k,hk,hf⟩:=k
  simp only
  repeat'(first|exact trivial|refine eS rfl ?_|refine AB ?_|refine rX [0,1,4,5,9,18] hc ?_ ?_|refine rC ?_ ?_<;>intro AA<;>try(cases AA;done))
  ·exact AA
  ·have hk2:k<l.length:=by exact eV
   rw[Vk s l hk2,if_pos AA]at hf
   exact AH hc [.tmp 4] rfl (.inl rfl) (by simp) (by rw[←hf];first|exact eR|refine Aw ?_)
  ·exact eV
  ·have hk2:k<l.length:=by exact eV
   rw[Vk s l hk2,if_neg (by rw[AA];simp)]at hf
   refine⟨⟨k+1,by omega,hf⟩,by simp only;omega,AC [] rfl rfl ?_ ?_⟩
   ·first|exact eN|refine eM ?_
   ·first|exact eN|refine eM ?_
  ·have hk2:l.drop k=[]:=List.drop_eq_nil_of_le (by exact eV)
   rw[hk2]at hf
   exact AH hc [.tmp 4] rfl (.inl rfl) (by simp) (by rw[←hf];first|exact eR|refine Aw ?_;rfl)
end
/- Functions of grammarlabref04: Find. -/
section
attribute [local go_sem] Md Fa
def S8 (s:List Int):Nat→List AW→Int
 | _,[]=>-1
 | k,x :: l=>if HO x.2 s=true then (k:Int) else S8 s (k+1) l
def Xa (l:List AW) (b:List Int):Int:=S8 (BH b) 0 l
theorem S9 (s:List Int) (l:List AW) {k:Nat} (h:k<l.length):S8 s k (l.drop k)=if HO (l.getD k c0).2 s=true then (k:Int) else S8 s (k+1) (l.drop (k+1)):=by
 rw[List.drop_eq_getElem_cons h]
 have e:l.getD k c0=l[k]:=by simp[List.getD_eq_getElem?_getD,h]
 rw[e]
 rfl
def Xb:Af:={ ins:=[I2,BA],pre:=fun(_,b,_)=>List.length b≤100000,out:=fun(l,b,_)=>[.p T3 (Xa l b)],lend:=true }
theorem wL:Al Tryz.prog 132 Xb:=by
 refine AU Tryz.func132 (by kernel_rfl) rfl Tryz.ntmps132 (by decide) (by kernel_rfl) (AG [(176,Fa),(177,Md)]) (AF Lz (AF XW AJ)) ?_
 rintro w0 O0 ⟨l,b,u⟩ hc ⟨⟨hl,-⟩,-⟩ hb
 simp only[AP]at hl
 simp only[Xb,AN]
 repeat'(first|exact trivial|refine eS rfl ?_|refine AB ?_|refine rX [0,1,4,5,6,12,21] hc ?_ ?_|refine rC ?_ ?_<;>intro AA<;>try(cases AA;done))
 ·exact hb
 ·have hcg:Xa l b=S8 (BH b) 0 l:=rfl
  rw[hcg]
  generalize BH b=s at *
  refine AL (ι:={k:Nat//k≤l.length∧S8 s k (l.drop k)=S8 s 0 l}) (fun k=>⟨[(0,.p I2 l),(5,.p BA s),(6,.p (.int .i64) (k.1:Int))],[]⟩) (fun k=>l.length-k.1) ⟨0,Nat.zero_le _,rfl⟩ (AC [] rfl rfl ?_ ?_) (fun k=>?_)
  ·first|exact eN|refine eM ?_
  ·first|exact eN|refine eM ?_
  ·obtain⟨k,hk,hf⟩:=k
   simp only
   repeat'(first|exact trivial|refine eS rfl ?_|refine AB ?_|refine rX [0,1,4,5,6,12,21] hc ?_ ?_|refine rC ?_ ?_<;>intro AA<;>try(cases AA;done))
   ·exact AA
   ·have hk2:k<l.length:=by exact eV
    rw[S9 s l hk2,if_pos AA]at hf
    exact AH hc [.tmp 4] rfl (.inl rfl) (by simp) (by rw[←hf];first|exact eR|refine Aw ?_)
   ·exact eV
   ·have hk2:k<l.length:=by exact eV
    rw[S9 s l hk2,if_neg (by rw[AA];simp)]at hf
    refine⟨⟨k+1,by omega,hf⟩,by simp only;omega,AC [] rfl rfl ?_ ?_⟩
    ·first|exact eN|refine eM ?_
    ·first|exact eN|refine eM ?_
   ·have hk2:l.drop k=[]:=List.drop_eq_nil_of_le (by exact eV)
    rw[hk2]at hf
    exact AH hc [.tmp 4] rfl (.inl rfl) (by simp) (by rw[←hf];first|exact eR|refine Aw ?_;rfl)
end
/- Functions of grammarlabref05: value. -/
section
attribute [local go_sem] Md
def Zd (s:ByteArray):List (ByteArray×ByteArray)→ByteArray×Bool
 | []=>(ByteArray.empty,false)
 | x :: l=>if Ar x.1 s=true then (x.2,true) else Zd s l
def F5 (x:AK) (s:ByteArray):ByteArray×Bool:=Zd s x.2.2
theorem Vm (s:ByteArray) (l:List (ByteArray×ByteArray)) {k:Nat} (h:k<l.length):Zd s (l.drop k)=if Ar (l.getD k (ByteArray.empty,ByteArray.empty)).1 s=true then ((l.getD k (ByteArray.empty,ByteArray.empty)).2,true) else Zd s (l.drop (k+1)):=by
 rw[List.drop_eq_getElem_cons h]
 have e:l.getD k (ByteArray.empty,ByteArray.empty)=l[k]:=by simp[List.getD_eq_getElem?_getD,h]
 rw[e]
 rfl
def Pc:Af:={ ins:=[qP,T9],pre:=fun _=>True,out:=fun(x,s,_)=>[.p T9 (F5 x s).1,.p .bool (F5 x s).2],lend:=true }
theorem Ze:Al Tryz.prog 175 Pc:=by
 refine AU Tryz.func175 (by kernel_rfl) rfl Tryz.ntmps175 (by decide) (by kernel_rfl) (AG []) AJ ?_
 rintro w0 O0 ⟨⟨nm,sup,fe⟩,s,u⟩ hc ⟨⟨-,-,hfe,-⟩,-⟩ -
 simp only[AP]at hfe
 simp only[Pc,AN]
 repeat'(first|exact trivial|refine eS rfl ?_|refine AB ?_|refine rX [0,1,2,4,5,6,11,21] hc ?_ ?_|refine rC ?_ ?_<;>intro AA<;>try(cases AA;done))
 have hz:({ data:=#[] }:ByteArray).size≤AP:=by decide
 rw[if_pos hz]
 refine AL (ι:={k:Nat//k≤fe.length∧Zd s (fe.drop k)=F5 (nm,sup,fe) s}) (fun k=>⟨[(1,.p T9 s),(2,.bp 2 [] 0),(6,.p (.int .i64) (k.1:Int))],[(2,.box 154 true [.p T9 nm,.p Bo sup,.p ZQ fe])]⟩) (fun k=>fe.length-k.1) ⟨0,Nat.zero_le _,rfl⟩ (AC [(2,.nm 2)] rfl rfl ?_ ?_) (fun k=>?_)
 ·first|exact eN|refine eM ?_
 ·first|exact eN|refine eM ?_
 ·obtain⟨k,hk,hf⟩:=k
  simp only
  repeat'(first|exact trivial|refine eS rfl ?_|refine AB ?_|refine rX [0,1,2,4,5,6,11,21] hc ?_ ?_|refine rC ?_ ?_<;>intro AA<;>try(cases AA;done))
  ·exact AA
  ·assumption
  ·have hk2:k<fe.length:=by exact eV
   rw[Vm s fe hk2,if_pos AA]at hf
   exact AH hc [.tmp 4,.tmp 5] rfl (.inl rfl) (by simp) (by rw[←hf];first|exact eR|refine Aw ?_)
  ·exact eV
  ·have hk2:k<fe.length:=by exact eV
   rw[Vm s fe hk2,if_neg (by rw[AA];simp)]at hf
   refine⟨⟨k+1,by omega,hf⟩,by simp only;omega,AC [(2,.nm 2)] rfl rfl ?_ ?_⟩
   ·first|exact eN|refine eM ?_
   ·first|exact eN|refine eM ?_
  ·have hk2:fe.drop k=[]:=List.drop_eq_nil_of_le (by exact eV)
   rw[hk2]at hf
   rw[if_pos hz]
   exact AH hc [.tmp 4,.tmp 5] rfl (.inl rfl) (by simp) (by rw[←hf];first|exact eR|refine Aw ?_;exact⟨rfl,rfl⟩)
end
/- Functions of grammarlabref04: before. -/
section
attribute [local go_sem] XX
def Fd (a b:AW):Bool:=decide (((HP b.2).length:Int)<((HP a.2).length:Int))||((HP a.2).length:Int)==((HP b.2).length:Int)&&Gi a.1 b.1
def Rl:Af:={ ins:=[XR,XR],pre:=fun(a,b,_)=>List.length (a:AW).2≤100000∧List.length (b:AW).2≤100000,out:=fun(a,b,_)=>[.p .bool (Fd a b)],lend:=true }
theorem rA:Al Tryz.prog 138 Rl:=by
 refine AU Tryz.func138 (by kernel_rfl) rfl Tryz.ntmps138 (by decide) (by kernel_rfl) (AG [(189,XX)]) (AF wE AJ) ?_
 rintro w0 O0 ⟨⟨an,ac⟩,⟨bn,bc⟩,u⟩ hc-⟨ha,hb⟩
 simp only[Rl,AN]
 repeat'(first|exact trivial|refine eS rfl ?_|refine AB ?_|refine rX [0,1,2,3,4,5,6] hc ?_ ?_|refine rC ?_ ?_<;>intro AA<;>try(cases AA;done))
 ·exact ha
 ·exact hb
 ·exact AH hc [.tmp 4] rfl (.inl rfl) (by simp) (by unfold Fd;first|exact eR|refine Aw ?_)
end
/- Functions of grammarlabref04: code. -/
section
attribute [local go_sem] S6 D5 ofS
def M6 (low all:List ByteArray) (n:Nat):List Int:=((List.range n).filter fun(i:Nat)=>Ad low (all.getD i ByteArray.empty)).map fun(i:Nat)=>(i:Int)
theorem rB (low all:List ByteArray) (n:Nat):M6 low all (n+1)=M6 low all n++if Ad low (all.getD n ByteArray.empty)=true then [(n:Int)] else []:=by
 unfold M6
 rw[List.range_succ,List.filter_append,List.map_append]
 congr 1
 rw[List.filter_cons,List.filter_nil]
 split<;>rfl
theorem wM (low all:List ByteArray) (n:Nat):(M6 low all n).length≤n:=by
 unfold M6
 rw[List.length_map]
 exact Nat.le_trans (List.length_filter_le _ _) (by simp)
def Gj (d:List AK) (all:List ByteArray) (s:ByteArray):List Int:=(zQ (M6 (Df d s) all all.length)).1
def nV:Af:={ ins:=[Ec,Bo,T9],pre:=fun(d,l,_,_)=>List.length d≤256∧List.length l≤100000,out:=fun(d,l,s,_)=>[.p BA (Gj d l s)] }
theorem A1M:Al Tryz.prog 135 nV:=by
 refine AU Tryz.func135 (by kernel_rfl) rfl Tryz.ntmps135 (by decide) (by kernel_rfl) (AG [(182,S6),(183,D5),(184,ofS)]) (AF wJ (AF GQ (AF A6W AJ))) ?_
 rintro w0 O0 ⟨d,l,s,u⟩ hc-⟨hd,hl⟩
 have hl:l.length≤100000:=hl
 have hcf:Gj d l s=(zQ (M6 (Df d s) l l.length)).1:=rfl
 simp only[nV,AN]
 repeat'(first|exact trivial|refine eS rfl ?_|refine AB ?_|refine rX [0,1,2,6,7,8,9,10,18,26] hc ?_ ?_|refine rC ?_ ?_<;>intro AA<;>try(cases AA;done))
 ·exact hd
 ·rw[hcf]
  generalize Df d s=low at *
  refine AL (ι:={n:Nat//n≤l.length}) (fun n=>⟨[(0,.p Ec d),(1,.p Bo l),(2,.p T9 s),(7,.p Bo low),(8,.sr 30 T3 0 (M6 low l n.1).length),(9,.p (.int .i64) (n.1:Int))],[(30,.arr 3 T3 (M6 low l n.1))]⟩) (fun n=>l.length-n.1) ⟨0,Nat.zero_le _⟩ (AC [(30,.nil)] rfl rfl ?_ ?_) (fun n=>?_)
  ·first|exact eN|refine eM ?_
   rfl
  ·first|exact eN|refine eM ?_
   rfl
  ·obtain⟨n,hn⟩:=n
   have hz:=wM low l n
   have hs:=rB low l n
   simp only
   repeat'(first|exact trivial|refine eS rfl ?_|refine AB ?_|refine rX [0,1,2,6,7,8,9,10,18,26] hc ?_ ?_|refine rC ?_ ?_<;>intro AA<;>try(cases AA;done))
   ·exact AA
   ·rw[AA,if_pos rfl]at hs
    simp only[AP]
    dsimp only[Ty.den]at *
    omega
   ·exact eV
   ·have hn2:n<l.length:=by exact eV
    rw[AA,if_pos rfl]at hs
    refine⟨⟨n+1,by omega⟩,by simp only;omega,AC [(30,.nm 30)] rfl rfl ?_ ?_⟩
    ·simp only[hs]
     first|exact eN|refine eM ?_
    ·simp only[hs]
     first|exact eN|refine eM ?_
   ·exact eV
   ·have hn2:n<l.length:=by exact eV
    rw[AA,if_neg (by simp),List.append_nil]at hs
    refine⟨⟨n+1,by omega⟩,by simp only;omega,AC [(30,.nm 30)] rfl rfl ?_ ?_⟩
    ·simp only[hs]
     first|exact eN|refine eM ?_
    ·simp only[hs]
     first|exact eN|refine eM ?_
   ·have hn2:n=l.length:=by exact eV
    subst hn2
    refine Gr [30] ?_
    repeat'(first|exact trivial|refine eS rfl ?_|refine AB ?_|refine rX [0,1,2,6,7,8,9,10,18,26] hc ?_ ?_|refine rC ?_ ?_<;>intro AA<;>try(cases AA;done))
    exact AH hc [.tmp 6] rfl (.inl rfl) (by simp) (by first|exact eR|refine Aw ?_)
end
/- Functions of grammarlabref05: feats. -/
section
attribute [local go_sem] M2
def OW (o:List ByteArray) (f:ByteArray×ByteArray):List ByteArray:=D6 o f.1
def Pd (o:List ByteArray) (x:AK):List ByteArray:=x.2.2.foldl OW o
def Dg (d:List AK):List ByteArray:=d.foldl Pd []
theorem Vn (l:List (ByteArray×ByteArray)):∀o:List ByteArray,(l.foldl OW o).length≤o.length+l.length:=by
 induction l with
 | nil=>intro o;simp
 | cons x l ih =>
  intro o
  have h1:=ih (OW o x)
  have h2:(OW o x).length≤o.length+1:=Kw o x.1
  simp only[List.foldl_cons,List.length_cons]
  omega
theorem dR {d:List AK} (h:∀x∈d,x.2.2.length≤256):∀(l:List AK),(∀x∈l,x∈d)→∀o:List ByteArray,(l.foldl Pd o).length≤o.length+256*l.length:=by
 intro l
 induction l with
 | nil=>intro _ o;simp
 | cons x l ih =>
  intro hl o
  have h1:=ih (fun y hy=>hl y (by simp[hy])) (Pd o x)
  have h2:=Vn x.2.2 o
  have h3:=h x (hl x (by simp))
  have h4:(Pd o x).length=(x.2.2.foldl OW o).length:=rfl
  simp only[List.foldl_cons,List.length_cons]
  omega
def K0:Af:={ ins:=[Ec],pre:=fun(d,_)=>List.length d≤256∧(∀x∈(d:List AK),x.2.2.length≤256),out:=fun(d,_)=>[.p Bo (Dg d)] }
theorem TA:Al Tryz.prog 130 K0:=by
 refine AU Tryz.func130 (by kernel_rfl) rfl Tryz.ntmps130 (by decide) (by kernel_rfl) (AG [(174,M2)]) (AF PX AJ) ?_
 rintro w0 O0 ⟨d,u⟩ hc-⟨hd,hx⟩
 have hd:d.length≤256:=hd
 simp only[K0,AN]
 repeat'(first|exact trivial|refine eS rfl ?_|refine AB ?_|refine rX [0,2,3,4,5,9,19] hc ?_ ?_|refine rC ?_ ?_<;>intro AA<;>try(cases AA;done))
 refine AL (ι:={i:Nat//i≤d.length}) (fun i=>⟨[(0,.p Ec d),(3,.p Bo (Dg (d.take i.1))),(4,.p (.int .i64) (i.1:Int))],[]⟩) (fun i=>d.length-i.1) ⟨0,Nat.zero_le _⟩ (AC [] rfl rfl ?_ ?_) (fun i=>?_)
 ·first|exact eN|refine eM ?_
 ·first|exact eN|refine eM ?_
  rfl
 ·obtain⟨i,hi⟩:=i
  have hlen:=dR hx (d.take i) (fun x h=>List.mem_of_mem_take h) []
  have htl:=List.length_take_le i d
  have hs:=fun h:i<d.length=>EZ Pd d d0 [] h
  have hfe:∀e,Dg e=e.foldl Pd []:=fun _=>rfl
  simp only
  repeat'(first|exact trivial|refine eS rfl ?_|refine AB ?_|refine rX [0,2,3,4,5,9,19] hc ?_ ?_|refine rC ?_ ?_<;>intro AA<;>try(cases AA;done))
  ·have hi2:i<d.length:=by exact eV
   have hxi:=hx _ (AD d d0 hi2)
   have hs:=hs hi2
   rw[←hfe,←hfe]at hs
   rw[←hfe]at hlen
   generalize Dg (d.take i)=o at *
   refine AL (ι:={k:Nat//k≤(d.getD i d0).2.2.length}) (fun k=>⟨[(0,.p Ec d),(3,.p Bo (((d.getD i d0).2.2.take k.1).foldl OW o)),(4,.p (.int .i64) (i:Int)),(5,.p (.int .i64) (k.1:Int))],[]⟩) (fun k=>(d.getD i d0).2.2.length-k.1) ⟨0,Nat.zero_le _⟩ (AC [] rfl rfl ?_ ?_) (fun k=>?_)
   ·first|exact eN|refine eM ?_
   ·first|exact eN|refine eM ?_
    rfl
   ·obtain⟨k,hk⟩:=k
    have hk':k≤(d.getD i d0).2.2.length:=hk
    have hfl:=Vn ((d.getD i d0).2.2.take k) o
    have hkl:=List.length_take_le k (d.getD i d0).2.2
    have hss:=fun h:k<(d.getD i d0).2.2.length=>EZ OW (d.getD i d0).2.2 (ByteArray.empty,ByteArray.empty) o h
    simp only
    repeat'(first|exact trivial|refine eS rfl ?_|refine AB ?_|refine rX [0,2,3,4,5,9,19] hc ?_ ?_|refine rC ?_ ?_<;>intro AA<;>try(cases AA;done))
    ·assumption
    ·refine⟨by assumption,AA,?_⟩
     simp only[List.length_nil]at hlen
     dsimp only[Ty.den]at *
     omega
    ·have h1:(k:Int)<((d.getD i d0).2.2.length:Int):=AA
     exact eV
    ·have hk2:k<(d.getD i d0).2.2.length:=Int.ofNat_lt.1 AA
     have e:=hss hk2
     refine⟨⟨k+1,hk2⟩,by simp only;omega,AC [] rfl rfl ?_ ?_⟩
     ·first|exact eN|refine eM ?_
     ·simp only[e]
      unfold OW
      first|exact eN|refine eM ?_
    ·have:=hd
     exact eV
    ·have hk2:(d.getD i d0).2.2.take k=(d.getD i d0).2.2:=List.take_of_length_le (Int.ofNat_le.1 AA)
     have e:Dg (d.take (i+1))=((d.getD i d0).2.2.take k).foldl OW o:=by rw[hk2];exact hs
     refine⟨⟨i+1,hi2⟩,by simp only;omega,AC [] rfl rfl ?_ ?_⟩
     ·first|exact eN|refine eM ?_
     ·simp only[e]
      first|exact eN|refine eM ?_
  ·have hk2:d.take i=d:=List.take_of_length_le (by exact eV)
   rw[hk2]
   exact AH hc [.tmp 2] rfl (.inl rfl) (by simp) (by first|exact eR|refine Aw ?_)
end
/- What a hierarchy that passes grammarlabref03.Check is: all supertypes are declared. -/
section
theorem Vo {d:List AK} {l:List ByteArray}:∀ {r:List ByteArray} {k:Nat},RP d l k r=0→∀s∈r,0≤BB d s
 | [],_,_,s,hs=>by cases hs
 | x :: r,k,h,s,hs=>by
  simp only[RP]at h
  split at h
  ·cases h
  ·rename_i h1
   split at h
   ·cases h
   ·rcases List.mem_cons.1 hs with rfl|hs
    ·omega
    ·exact Vo h s hs
theorem OX {d:List AK}:∀ {l:List AK},Ji d l=0→∀x∈l,∀s∈x.2.1,0≤BB d s
 | [],_,x,hx=>by cases hx
 | y :: l,h,x,hx=>by
  simp only[Ji]at h
  split at h
  ·rename_i h1;exact absurd h h1
  ·rename_i h1
   rcases List.mem_cons.1 hx with rfl|hx
   ·exact Vo (Classical.byContradiction h1)
   ·exact OX h x hx
theorem wN {d:List AK} (h:Jj d=0):S3 d:=OX h
theorem A7 {d:List AK} (h:BK d=0):S3 d∧d.length≤256∧HT d=1∧Dd d=0∧d.length≤(BX d).length:=by
 unfold BK at h
 split at h
 ·rename_i h1;exact absurd h h1
 ·rename_i h1
  split at h
  ·rename_i h2;exact absurd h h2
  ·rename_i h2
   split at h
   ·rename_i h3;exact absurd h h3
   ·rename_i h3
    split at h
    ·cases h
    ·rename_i h4
     split at h
     ·cases h
     ·rename_i h5
      exact⟨wN (Classical.byContradiction h3),Qq (Classical.byContradiction h1),Classical.byContradiction h4,Classical.byContradiction h2,by omega⟩
end
/- Functions of grammarlabref04: family. -/
section
attribute [local go_sem] A1L ZW
def Gd (l:List (List Int)) (i k:Nat):List (List Int) :=
 if (decide (0<((Fb (l.getD i []) (l.getD k [])).length:Int))&&!dQ l (Fb (l.getD i []) (l.getD k [])))=true then l++[Fb (l.getD i []) (l.getD k [])] else l
def Ge (i:Nat):Nat→Nat→List (List Int)→List (List Int)
 | 0,_,l=>l
 | n+1,k,l=>if l.length≤256 then Ge i n (k+1) (Gd l i k) else l
def IW:Nat→Nat→List (List Int)→List (List Int)
 | 0,_,l=>l
 | n+1,i,l=>if i<l.length∧l.length≤256 then IW n (i+1) (Ge i i 0 l) else l
def A1 (c:List (List Int)):List (List Int):=IW 257 0 c
theorem Zf (a b:List Int):(Fb a b).length≤a.length:=by
 unfold Fb BH
 have:=EL .and a b a.length
 rw[List.length_take]
 omega
structure A2V (l:List (List Int)):Prop where
 len:l.length≤257
 wid:∀c∈l,c.length≤64
theorem K2 {l:List (List Int)} (h:∀c∈l,c.length≤64) (k:Nat):(l.getD k []).length≤64:=by
 rw[List.getD_eq_getElem?_getD]
 cases hh:l[k]? with
 | none=>simp
 | some x=>exact h x (List.mem_of_getElem? hh)
theorem Zg {l:List (List Int)} (h:∀c∈l,c.length≤64) (i k:Nat):∀c∈Gd l i k,c.length≤64:=by
 unfold Gd
 split
 ·intro c hc
  rcases List.mem_append.1 hc with hc|hc
  ·exact h c hc
  ·have:c=Fb (l.getD i []) (l.getD k []):=by simpa using hc
   rw[this]
   exact Nat.le_trans (Zf _ _) (K2 h i)
 ·exact h
theorem wO (l:List (List Int)) (i k:Nat):l.length≤(Gd l i k).length∧(Gd l i k).length≤l.length+1:=by
 unfold Gd
 split
 ·simp
 ·exact⟨Nat.le_refl _,Nat.le_succ _⟩
def Rm:Af:={ ins:=[RN],pre:=fun(c,_)=>List.length c≤256∧∀x∈(c:List (List Int)),x.length≤64,out:=fun(c,_)=>[.p RN (A1 c)] }
theorem rD:Al Tryz.prog 136 Rm:=by
 refine AU Tryz.func136 (by kernel_rfl) rfl Tryz.ntmps136 (by decide) (by kernel_rfl) (AG [(143,ZW),(185,A1L)]) (AF dM (AF A3y AJ)) ?_
 rintro w0 O0 ⟨c,u⟩ hc-⟨hcl,hcw⟩
 have hcl:c.length≤256:=hcl
 simp only[Rm,AN]
 repeat'(first|exact trivial|refine eS rfl ?_|refine AB ?_|refine rX [0,2,3,4,5,6,18,28,48] hc ?_ ?_|refine rC ?_ ?_<;>intro AA<;>try(cases AA;done))
 ·simp only[AP];dsimp only[Ty.den]at *;omega
 ·refine AL (ι:={x:Nat×List (List Int)//x.1≤256∧A2V x.2∧IW (257-x.1) x.1 x.2=A1 c}) (fun x=>⟨[(3,.sr 7 BA 0 x.1.2.length),(4,.p (.int .i64) (x.1.1:Int))],[(7,.arr 142 BA x.1.2)]⟩) (fun x=>257-x.1.1) ⟨(0,c),by simp,⟨by simp only;omega,hcw⟩,rfl⟩ (AC [(7,.nm 7)] rfl rfl ?_ ?_) (fun x=>?_)
  ·first|exact eN|refine eM ?_
  ·first|exact eN|refine eM ?_
  ·obtain⟨⟨i,l⟩,hi,⟨hll,hlw⟩,hg⟩:=x
   simp only at hi hll hlw hg
   simp only
   repeat'(first|exact trivial|refine eS rfl ?_|refine AB ?_|refine rX [0,2,3,4,5,6,18,28,48] hc ?_ ?_|refine rC ?_ ?_<;>intro AA<;>try(cases AA;done))
   ·have hi2:i<l.length:=by omega
    have hl2:l.length≤256:=by omega
    have hg2:IW (256-i) (i+1) (Ge i i 0 l)=A1 c:=by
     have e:257-i=(256-i)+1:=by omega
     rw[←hg,e]
     show _=if i<l.length∧l.length≤256 then IW (256-i) (i+1) (Ge i i 0 l) else l
     rw[if_pos ⟨hi2,hl2⟩]
    refine AL (ι:={y:Nat×List (List Int)//y.1≤i∧A2V y.2∧l.length≤y.2.length∧Ge i (i-y.1) y.1 y.2=Ge i i 0 l}) (fun y=>⟨[(3,.sr 7 BA 0 y.1.2.length),(4,.p (.int .i64) (i:Int)),(5,.p (.int .i64) (y.1.1:Int))],[(7,.arr 142 BA y.1.2)]⟩) (fun y=>i-y.1.1) ⟨(0,l),by simp,⟨hll,hlw⟩,Nat.le_refl _,rfl⟩ (AC [(7,.nm 7)] rfl rfl ?_ ?_) (fun y=>?_)
    ·first|exact eN|refine eM ?_
    ·first|exact eN|refine eM ?_
    ·obtain⟨⟨k,m⟩,hk,⟨hml,hmw⟩,hlm,hf⟩:=y
     simp only at hk hml hmw hlm hf
     simp only
     repeat'(first|exact trivial|refine eS rfl ?_|refine AB ?_|refine rX [0,2,3,4,5,6,18,28,48] hc ?_ ?_|refine rC ?_ ?_<;>intro AA<;>try(cases AA;done))
     ·exact⟨by exact eV,by exact eV,Nat.le_trans (K2 hmw i) (by decide)⟩
     ·simp only[AP];omega
     ·omega
     ·have e:Gd m i k=m++[Fb (m.getD i []) (m.getD k [])]:=by
       unfold Gd
       rw[if_pos]
       rw[Bool.and_eq_true,decide_eq_true_eq,Bool.not_eq_true']
       exact AA
      have hw:=Zg hmw i k
      have h2:=wO m i k
      refine⟨⟨(k+1,Gd m i k),by simp only;omega,⟨by simp only;omega,hw⟩,by simp only;omega,?_⟩,by simp only;omega,AC [(7,.nm 7)] rfl rfl ?_ ?_⟩
      ·simp only
       rw[←hf,show i-k=(i-(k+1))+1 by omega]
       show _=if m.length≤256 then Ge i (i-(k+1)) (k+1) (Gd m i k) else m
       rw[if_pos (by omega)]
      ·simp only[e]
       first|exact eN|refine eM ?_
      ·simp only[e]
       first|exact eN|refine eM ?_
     ·omega
     ·have e:Gd m i k=m:=by
       unfold Gd
       rw[if_neg]
       rw[Bool.and_eq_true,decide_eq_true_eq,Bool.not_eq_true']
       intro h
       rw[AA h.1]at h
       exact absurd h.2 (by simp)
      refine⟨⟨(k+1,m),by simp only;omega,⟨hml,hmw⟩,hlm,?_⟩,by simp only;omega,AC [(7,.nm 7)] rfl rfl ?_ ?_⟩
      ·simp only
       rw[←hf,show i-k=(i-(k+1))+1 by omega]
       show _=if m.length≤256 then Ge i (i-(k+1)) (k+1) (Gd m i k) else m
       rw[if_pos (by omega),e]
      ·first|exact eN|refine eM ?_
      ·first|exact eN|refine eM ?_
     ·omega
     ·have hm2:m=Ge i i 0 l:=by
       rw[←hf]
       cases hm:i-k with
       | zero=>rfl
       | succ j =>
        show _=if m.length≤256 then _ else m
        rw[if_neg (by omega)]
      rw[←hm2]at hg2
      refine⟨⟨(i+1,m),by simp only;omega,⟨hml,hmw⟩,?_⟩,by simp only;omega,AC [(7,.nm 7)] rfl rfl ?_ ?_⟩
      ·simp only
       rw[show 257-(i+1)=256-i by omega]
       exact hg2
      ·first|exact eN|refine eM ?_
      ·first|exact eN|refine eM ?_
   ·have hgl:l=A1 c:=by
     rw[←hg]
     cases hm:257-i with
     | zero=>rfl
     | succ m =>
      show _=if i<l.length∧l.length≤256 then _ else l
      rw[if_neg (by omega)]
    rw[←hgl]
    refine Gr [7] ?_
    exact AH hc [.tmp 2] rfl (.inl rfl) (by simp) (by first|exact eR|refine Aw ?_)
theorem cs0 {α:Type} (x y:α):(if ({ data:=#[] }:ByteArray).size≤AP then x else y)=x:=if_pos (by show 0≤AP;decide)
theorem cs1 {α:Type} (a:UInt8) (x y:α):(if ({ data:=#[a] }:ByteArray).size≤AP then x else y)=x:=if_pos (by show 1≤AP;decide)
theorem cs2 {α:Type} (a b:UInt8) (x y:α):(if ({ data:=#[a,b] }:ByteArray).size≤AP then x else y)=x:=if_pos (by show 2≤AP;decide)
theorem cs3 {α:Type} (a b c:UInt8) (x y:α):(if ({ data:=#[a,b,c] }:ByteArray).size≤AP then x else y)=x:=if_pos (by show 3≤AP;decide)
theorem cs4 {α:Type} (a b c d:UInt8) (x y:α):(if ({ data:=#[a,b,c,d] }:ByteArray).size≤AP then x else y)=x:=if_pos (by show 4≤AP;decide)
theorem cs5 {α:Type} (a b c d e:UInt8) (x y:α):(if ({ data:=#[a,b,c,d,e] }:ByteArray).size≤AP then x else y)=x:=if_pos (by show 5≤AP;decide)
theorem cs6 {α:Type} (a b c d e f:UInt8) (x y:α):(if ({ data:=#[a,b,c,d,e,f] }:ByteArray).size≤AP then x else y)=x:=if_pos (by show 6≤AP;decide)
theorem cs7 {α:Type} (a b c d e f g:UInt8) (x y:α):(if ({ data:=#[a,b,c,d,e,f,g] }:ByteArray).size≤AP then x else y)=x:=if_pos (by show 7≤AP;decide)
theorem cs8 {α:Type} (a b c d e f g h:UInt8) (x y:α):(if ({ data:=#[a,b,c,d,e,f,g,h] }:ByteArray).size≤AP then x else y)=x:=if_pos (by show 8≤AP;decide)
end
/- Plain: the bits of the codes. -/
section
def BR (b:List Int) (i:Nat):Bool:=(b.getD (i / 64) 0).toNat.testBit (i % 64)
def wP (x:Int):Prop:=0≤x∧x<18446744073709551616
theorem FE {x:Int} (h:wP x):(BitVec.ofInt 64 x).toNat=x.toNat:=by
 rw[BitVec.toNat_ofInt]
 have h1:=h.1
 have h2:=h.2
 rw[Int.emod_eq_of_lt h1 (by simpa using h2)]
theorem OY {n:Nat} (h:n<18446744073709551616):IntKind.u64.wrap (n:Int)=n:=JV (by rw[Hw];omega)
theorem A1N {x y:Int} (hx:wP x) (hy:wP y):CS .or .u64 x y=((x.toNat ||| y.toNat:Nat):Int):=by
 have h1:(BitVec.ofInt IntKind.u64.bits x ||| BitVec.ofInt IntKind.u64.bits y).toNat=x.toNat ||| y.toNat:=by
  rw[BitVec.toNat_or]
  show (BitVec.ofInt 64 x).toNat ||| (BitVec.ofInt 64 y).toNat=_
  rw[FE hx,FE hy]
 unfold CS
 simp only
 rw[h1]
 have e:(18446744073709551616:Nat)=2 ^ 64:=by decide
 refine OY ?_
 rw[e]
 refine Nat.or_lt_two_pow ?_ ?_
 ·have:=hx.2;have:=hx.1;omega
 ·have:=hy.2;have:=hy.1;omega
theorem HW {x y:Int} (hx:wP x) (hy:wP y):CS .and .u64 x y=((x.toNat &&& y.toNat:Nat):Int):=by
 have h1:(BitVec.ofInt IntKind.u64.bits x &&& BitVec.ofInt IntKind.u64.bits y).toNat=x.toNat &&& y.toNat:=by
  rw[BitVec.toNat_and]
  show (BitVec.ofInt 64 x).toNat &&& (BitVec.ofInt 64 y).toNat=_
  rw[FE hx,FE hy]
 unfold CS
 simp only
 rw[h1]
 refine OY (Nat.lt_of_le_of_lt Nat.and_le_left ?_)
 have:=hx.2;have:=hx.1;omega
theorem Pe {x y:Int}:CS .andNot .u64 x y=((BitVec.ofInt 64 x &&& ~~~BitVec.ofInt 64 y).toNat:Int):=by
 show IntKind.u64.wrap ((BitVec.ofInt 64 x &&& ~~~BitVec.ofInt 64 y).toNat:Int)=_
 exact OY (BitVec.isLt _)
theorem Qr {x y:Int} (hx:wP x) (hy:wP y) (h:CS .andNot .u64 x y=0) {r:Nat} (hr:r<64) (hb:x.toNat.testBit r=true):y.toNat.testBit r=true:=by
 rw[Pe]at h
 have h1:(BitVec.ofInt 64 x &&& ~~~BitVec.ofInt 64 y).toNat=0:=by omega
 have h2:(BitVec.ofInt 64 x &&& ~~~BitVec.ofInt 64 y).toNat.testBit r=false:=by rw[h1];exact Nat.zero_testBit r
 rw[BitVec.testBit_toNat,BitVec.getLsbD_and,BitVec.getLsbD_not,←BitVec.testBit_toNat,←BitVec.testBit_toNat,FE hx,FE hy,hb]at h2
 simpa[hr] using h2
theorem Qs {x:Int}:CS .andNot .u64 x x=0:=by
 rw[Pe]
 simp
theorem M7 {b:List Int}:∀ {n:Nat},∀k,Cc b n≤k→k<n→b.getD k 0=0
 | 0,k,_,h=>by omega
 | n+1,k,h1,h2=>by
  unfold Cc at h1
  split at h1
  ·rename_i hz
   by_cases hk:k=n
   ·rw[hk];exact hz
   ·exact M7 k h1 (by omega)
  ·omega
theorem OZ (b:List Int) (k:Nat):(BH b).getD k 0=b.getD k 0:=by
 unfold BH
 by_cases h:k<Cc b b.length
 ·simp[List.getD_eq_getElem?_getD,List.getElem?_take,h]
 ·have h1:(List.take (Cc b b.length) b).getD k 0=0:=by
   rw[List.getD_eq_getElem?_getD,List.getElem?_take,if_neg h];rfl
  rw[h1]
  by_cases h2:k<b.length
  ·exact(M7 k (by omega) h2).symm
  ·rw[List.getD_eq_getElem?_getD,List.getElem?_eq_none (by omega)];rfl
theorem M8 (b:List Int) (i:Nat):BR (BH b) i=BR b i:=by unfold BR;rw[OZ]
def H8 (b:List Int):Prop:=∀x∈b,wP x
theorem A8 {b:List Int} (h:H8 b) (k:Nat):wP (b.getD k 0):=by
 rw[List.getD_eq_getElem?_getD]
 cases hh:b[k]? with
 | none=>exact⟨by simp,by simp⟩
 | some x=>exact h x (List.mem_of_getElem? hh)
theorem M9 {b:List Int} (h:H8 b):H8 (BH b):=fun x hx=>h x (List.mem_of_mem_take hx)
theorem Gz (b:List Int) (k:Nat):Fs b (k:Int)=b.getD k 0:=by
 unfold Fs
 split
 ·simp
 ·rename_i h
  rw[List.getD_eq_getElem?_getD,List.getElem?_eq_none (by omega)];rfl
theorem L3 (op:BinOp) (a b:List Int) {n k:Nat} (h:k<n):(F4 op a b n).getD k 0=CS op .u64 (a.getD k 0) (b.getD k 0):=by
 unfold F4
 rw[List.getD_eq_getElem?_getD,List.getElem?_map,List.getElem?_range h]
 show CS op .u64 (a.getD k 0) (Fs b (k:Int))=_
 rw[Gz]
theorem Xc {a b:List Int} (h:Ew a b=true) {k:Nat} (hk:k<a.length):CS .andNot .u64 (a.getD k 0) (b.getD k 0)=0:=by
 unfold Ew PY BH at h
 have h1:(List.take (Cc (F4 .andNot a b a.length) (F4 .andNot a b a.length).length) (F4 .andNot a b a.length)).length=0:=by
  have:=beq_iff_eq.1 h
  omega
 rw[List.length_take,EL]at h1
 have h2:=Sy (F4 .andNot a b a.length) a.length
 have h3:=M7 (b:=F4 .andNot a b a.length) (n:=a.length) k (by omega) hk
 rw[L3 _ _ _ hk]at h3
 exact h3
theorem K3 {a b:List Int} (ha:H8 a) (hb:H8 b) (h:Ew a b=true) {i:Nat} (hi:BR a i=true):BR b i=true:=by
 by_cases hk:i / 64<a.length
 ·exact Qr (A8 ha _) (A8 hb _) (Xc h hk) (Nat.mod_lt _ (by decide)) hi
 ·exfalso
  unfold BR at hi
  rw[List.getD_eq_getElem?_getD,List.getElem?_eq_none (by omega)]at hi
  simp at hi
theorem Pf {b:List Int}:∀ {n:Nat},(∀k,k<n→b.getD k 0=0)→Cc b n=0
 | 0,_=>rfl
 | n+1,h=>by
  unfold Cc
  rw[if_pos (h n (by omega))]
  exact Pf fun k hk=>h k (by omega)
theorem Zh (a:List Int):Ew a a=true:=by
 unfold Ew PY BH
 have h1:Cc (F4 .andNot a a a.length) (F4 .andNot a a a.length).length=0:=by
  rw[EL]
  exact Pf fun k hk=>by rw[L3 _ _ _ hk];exact Qs
 rw[h1]
 rfl
theorem Zi (a:List Int):Fc a a=true:=by unfold Fc;rw[Zh];rfl
theorem A1O {b:List Int} (hb:H8 b) (hl:b.length=64) {x:Int} (h0:0≤x) (h1:x≤4095) (i:Nat):BR (q9 b x) i=(BR b i||decide (x=(i:Int))):=by
 have e1:Int.tdiv x 64=x / 64:=Int.tdiv_eq_ediv_of_nonneg h0
 have e2:Int.tmod x 64=x % 64:=Int.tmod_eq_emod_of_nonneg h0
 obtain⟨n,rfl⟩:∃n:Nat,x=(n:Int):=⟨x.toNat,by omega⟩
 have hs:Wl .u64 1 ((n:Int) % 64)=((2 ^ (n % 64):Nat):Int):=by
  unfold Wl
  have e3:min ((n:Int) % 64).toNat IntKind.u64.bits=n % 64:=by
   have:((n:Int) % 64).toNat=n % 64:=by omega
   rw[this]
   have:IntKind.u64.bits=64:=rfl
   omega
  rw[e3,Int.one_mul]
  have:(2:Int) ^ (n % 64)=((2 ^ (n % 64):Nat):Int):=by simp
  rw[this]
  refine OY ?_
  have h3:(2:Nat) ^ (n % 64)<2 ^ 64:=Nat.pow_lt_pow_right (by decide) (Nat.mod_lt _ (by decide))
  exact h3
 have hu:wP (Wl .u64 1 ((n:Int) % 64)):=by
  rw[hs]
  have h3:(2:Nat) ^ (n % 64)<2 ^ 64:=Nat.pow_lt_pow_right (by decide) (Nat.mod_lt _ (by decide))
  have h4:(2:Nat) ^ 64=18446744073709551616:=by decide
  refine⟨Int.natCast_nonneg _,?_⟩
  rw[h4]at h3
  exact Int.ofNat_lt.2 h3
 have hn:((n:Int) / 64).toNat=n / 64:=by omega
 unfold q9 BR
 rw[e1,e2,hn]
 by_cases hd:i / 64=n / 64
 ·have hlt:n / 64<b.length:=by omega
  rw[hd]
  have:(b.set (n / 64) (CS .or .u64 (b.getD (n / 64) 0) (Wl .u64 1 ((n:Int) % 64)))).getD (n / 64) 0=CS .or .u64 (b.getD (n / 64) 0) (Wl .u64 1 ((n:Int) % 64)):=by
   simp[List.getD_eq_getElem?_getD,hlt]
  rw[this,A1N (A8 hb _) hu,hs]
  simp only[Int.toNat_natCast,Nat.testBit_or,Nat.testBit_two_pow]
  congr 1
  rw[decide_eq_decide]
  omega
 ·have:(b.set (n / 64) (CS .or .u64 (b.getD (n / 64) 0) (Wl .u64 1 ((n:Int) % 64)))).getD (i / 64) 0=b.getD (i / 64) 0:=by
   simp[List.getD_eq_getElem?_getD,List.getElem?_set,Ne.symm hd]
  rw[this]
  have:decide ((n:Int)=(i:Int))=false:=by
   rw[decide_eq_false_iff_not]
   intro h
   exact hd (by omega)
  rw[this,Bool.or_false]
theorem A1P {b:List Int} (hb:H8 b) (x:Int):H8 (q9 b x):=by
 intro y hy
 unfold q9 at hy
 rcases List.mem_or_eq_of_mem_set hy with h|h
 ·exact hb y h
 ·rw[h]
  have:=Li .u64 ((BitVec.ofInt IntKind.u64.bits (b.getD (x.tdiv 64).toNat 0) ||| BitVec.ofInt IntKind.u64.bits (Wl .u64 1 (x.tmod 64))).toNat:Int)
  rw[Hw]at this
  exact⟨this.1,by have:=this.2;show _<_;exact Int.lt_of_le_of_lt this (by decide)⟩
theorem A1Q {l:List Int} (h:l.all okB=true) (i:Nat):BR (tP l) i=decide ((i:Int)∈l)∧H8 (tP l):=by
 have key:∀(l b:List Int),l.all okB=true→H8 b→b.length=64→BR (l.foldl q9 b) i=(BR b i||decide ((i:Int)∈l))∧H8 (l.foldl q9 b):=by
  intro l
  induction l with
  | nil=>intro b _ hb _;simp[hb]
  | cons x l ih =>
   intro b ho hb hl
   rw[List.all_cons,Bool.and_eq_true]at ho
   have hx:=ho.1
   unfold okB at hx
   rw[Bool.not_eq_true',Bool.or_eq_false_iff,decide_eq_false_iff_not,decide_eq_false_iff_not]at hx
   obtain⟨g1,g2⟩:=ih (q9 b x) ho.2 (A1P hb x) (by simp[q9,hl])
   rw[List.foldl_cons]
   refine⟨?_,g2⟩
   rw[g1,A1O hb hl (by omega) (by omega),Bool.or_assoc]
   congr 1
   rw[←Bool.decide_or,decide_eq_decide,List.mem_cons,eq_comm]
 have h2:H8 (List.replicate 64 (0:Int)):=by
  intro y hy
  rw[(List.mem_replicate.1 hy).2]
  exact⟨by decide,by decide⟩
 have h1:=key l (List.replicate 64 0) h h2 (by simp)
 refine⟨?_,h1.2⟩
 unfold tP
 rw[h1.1]
 have:BR (List.replicate 64 (0:Int)) i=false:=by
  unfold BR
  have:(List.replicate 64 (0:Int)).getD (i / 64) 0=0:=by
   rw[List.getD_eq_getElem?_getD,List.getElem?_replicate]
   split<;>rfl
  rw[this]
  simp
 rw[this,Bool.false_or]
theorem wQ {low all:List ByteArray} {n i:Nat}:((i:Int)∈M6 low all n)↔i<n∧Ad low (all.getD i ByteArray.empty)=true:=by
 unfold M6
 rw[List.mem_map]
 constructor
 ·rintro⟨j,hj,e⟩
  have:j=i:=by omega
  subst this
  rw[List.mem_filter,List.mem_range]at hj
  exact hj
 ·rintro⟨h1,h2⟩
  exact⟨i,by rw[List.mem_filter,List.mem_range];exact⟨h1,h2⟩,rfl⟩
theorem A1R {low all:List ByteArray} {n:Nat} (hn:n≤4096):(M6 low all n).all okB=true:=by
 rw[List.all_eq_true]
 intro x hx
 unfold M6 at hx
 obtain⟨j,hj,rfl⟩:=List.mem_map.1 hx
 rw[List.mem_filter,List.mem_range]at hj
 unfold okB
 rw[Bool.not_eq_true',Bool.or_eq_false_iff,decide_eq_false_iff_not,decide_eq_false_iff_not]
 exact⟨by omega,by omega⟩
theorem EM {d:List AK} {all:List ByteArray} (hl:all.length≤4096) (s:ByteArray) (i:Nat):(BR (Gj d all s) i=true↔i<all.length∧Ad (Df d s) (all.getD i ByteArray.empty)=true)∧H8 (Gj d all s)∧(Gj d all s).length≤64:=by
 have h1:=A1R (low:=Df d s) (all:=all) hl
 have h2:=A1Q h1 i
 have h3:Gj d all s=BH (tP (M6 (Df d s) all all.length)):=by
  unfold Gj zQ
  rw[if_pos h1]
 refine⟨?_,?_,?_⟩
 ·rw[h3,M8,h2.1,decide_eq_true_eq,wQ]
 ·rw[h3];exact M9 h2.2
 ·rw[h3]
  unfold BH
  have:=OV (M6 (Df d s) all all.length)
  rw[List.length_take]
  omega
end
/- Plain: what is placed stands in order; what is below comes behind. -/
section
theorem Qt (d:List AK) {s t:ByteArray} (h:Ar s t=true):BB d s=BB d t:=by
 have key:∀(l:List AK) (k:Nat),Cd s k l=Cd t k l:=by
  intro l
  induction l with
  | nil=>intro k;rfl
  | cons x l ih =>
   intro k
   simp only[Cd]
   have:Ar x.1 s=Ar x.1 t:=by
    cases h1:Ar x.1 s with
    | true=>exact(CA h1 h).symm
    | false =>
     cases h2:Ar x.1 t with
     | false=>rfl
     | true=>rw[CA h2 (E2 h)]at h1;cases h1
   rw[this,ih]
 exact key d 0
theorem DM {α:Type} {l:List α} {d:α} {k:Nat} (h:k<l.length):l.getD k d∈l:=by
 rw[List.getD_eq_getElem?_getD,List.getElem?_eq_getElem h]
 exact List.getElem_mem h
theorem Cu {α:Type} {l:List α} (d:α) {x:α} (h:x∈l):∃k,k<l.length∧l.getD k d=x:=by
 obtain⟨k,hk,e⟩:=List.mem_iff_getElem.1 h
 exact⟨k,hk,by rw[List.getD_eq_getElem?_getD,List.getElem?_eq_getElem hk];exact e⟩
theorem K4 {d:List AK}:∀ {r:List AK} {k:Nat},M3 d k r=0→∀j,j<r.length→¬BB d (r.getD j d0).1<((k+j:Nat):Int)∧Eh (r.getD j d0).1 false=true
 | [],_,_,j,hj=>by simp at hj
 | x :: r,k,h,j,hj=>by
  simp only[M3]at h
  split at h
  ·cases h
  ·rename_i h1
   split at h
   ·cases h
   ·rename_i h2
    cases j with
    | zero=>exact⟨h2,by simpa using h1⟩
    | succ j =>
     have:=K4 h j (by simpa using hj)
     have e:k+(j+1)=k+1+j:=by omega
     rw[e]
     exact this
theorem Oa (s:ByteArray):∀(l:List AK) (k j:Nat),j<l.length→Ar (l.getD j d0).1 s=true→Cd s k l≤((k+j:Nat):Int)
 | [],_,j,h,_=>by simp at h
 | x :: l,k,j,h,e=>by
  simp only[Cd]
  split
  ·omega
  ·rename_i h1
   cases j with
   | zero=>exact absurd e h1
   | succ j =>
    have:=Oa s l (k+1) j (by simpa using h) e
    omega
theorem Ob {d:List AK} (h:Dd d=0) {j:Nat} (hj:j<d.length):BB d (d.getD j d0).1=(j:Int):=by
 have h1:=(K4 h j hj).1
 have h2:=Oa (d.getD j d0).1 d 0 j hj (E1 _)
 rw[Nat.zero_add]at h1 h2
 have h2:BB d (d.getD j d0).1≤(j:Int):=h2
 omega
theorem Zj {d:List AK} (h:Dd d=0) {x y:AK} (hx:x∈d) (hy:y∈d) (e:Ar x.1 y.1=true):x=y:=by
 obtain⟨i,hi,rfl⟩:=Cu d0 hx
 obtain⟨j,hj,rfl⟩:=Cu d0 hy
 have h1:=Ob h hi
 have h2:=Ob h hj
 rw[Qt d e,h2]at h1
 have:i=j:=by omega
 rw[this]
theorem dS (d:List AK) (out:List ByteArray) (h:(HR d out).1=true):∃x∈d,x.1=(HR d out).2∧Ad out x.1=false∧HQ x out=true:=by
 have key:∀(l:List AK) (s:Bool×ByteArray),(∀x∈l,x∈d)→(s.1=true→∃x∈d,x.1=s.2∧Ad out x.1=false∧HQ x out=true)→(l.foldl (H6 out) s).1=true →
   ∃x∈d,x.1=(l.foldl (H6 out) s).2∧Ad out x.1=false∧HQ x out=true:=by
  intro l
  induction l with
  | nil=>intro s _ hs h;exact hs h
  | cons y l ih =>
   intro s hl hs h
   rw[List.foldl_cons]at h ⊢
   refine ih _ (fun x hx=>hl x (by simp[hx])) (fun hp=>?_) h
   unfold H6 at hp ⊢
   split
   ·rename_i hc
    rw[if_pos hc]at hp
    exact hs hp
   ·rename_i hc
    simp only
    have hc:Ad out y.1=false∧HQ y out=true:=by simpa using hc
    split
    ·exact⟨y,hl y (by simp),rfl,hc⟩
    ·rename_i hc2
     have:s.1=true:=by
      cases hh:s.1 with
      | true=>rfl
      | false=>rw[hh]at hc2;simp at hc2
     exact hs this
 exact key d _ (fun _ h=>h) (fun h=>by cases h) h
def PL (d:List AK) (o:List ByteArray):Prop:=∀j,j<o.length→∃x∈d,x.1=o.getD j ByteArray.empty∧Ad (o.take j) x.1=false∧HQ x (o.take j)=true
theorem PL.snoc {d:List AK} {o:List ByteArray} (h:PL d o) {x:AK} (hx:x∈d) (h1:Ad o x.1=false) (h2:HQ x o=true):PL d (o++[x.1]):=by
 intro j hj
 by_cases hjo:j<o.length
 ·obtain⟨y,hy,e1,e2,e3⟩:=h j hjo
  refine⟨y,hy,?_,?_,?_⟩
  ·rw[e1];simp[List.getD_eq_getElem?_getD,List.getElem?_append,hjo]
  ·rw[List.take_append_of_le_length (by omega)];exact e2
  ·rw[List.take_append_of_le_length (by omega)];exact e3
 ·have hj2:j=o.length:=by simp at hj;omega
  subst hj2
  refine⟨x,hx,?_,?_,?_⟩
  ·simp[List.getD_eq_getElem?_getD]
  ·rw[List.take_append_of_le_length (by omega),List.take_length];exact h1
  ·rw[List.take_append_of_le_length (by omega),List.take_length];exact h2
theorem TB {d:List AK}:∀ {n:Nat} {o:List ByteArray},PL d o→PL d (H7 d n o)
 | 0,_,h=>h
 | n+1,o,h=>by
  unfold H7
  split
  ·rename_i hp
   obtain⟨x,hx,e,h1,h2⟩:=dS d o hp
   rw[←e]
   exact TB (h.snoc hx h1 h2)
  ·exact h
theorem Vp (d:List AK):PL d (BX d):=TB fun j hj=>by simp at hj
theorem PL.ok {d:List AK} {o:List ByteArray} (h:PL d o):YX d o:=by
 refine⟨fun s hs=>?_,?_⟩
 ·obtain⟨j,hj,rfl⟩:=Cu ByteArray.empty hs
  obtain⟨x,hx,e,-⟩:=h j hj
  rw[←e]
  exact E3 hx
 ·rw[List.pairwise_iff_getElem]
  intro i j hi hj hij
  obtain⟨x,hx,e,h1,-⟩:=h j hj
  have h2:=OU h1 o[i] (by rw[List.mem_take_iff_getElem];exact⟨i,by omega,rfl⟩)
  rw[e]at h2
  rw[List.getD_eq_getElem?_getD,List.getElem?_eq_getElem hj]at h2
  exact h2
theorem dT {n:Nat} {l:List Nat} (h:l.Nodup) (hl:∀j∈l,j<n) (hn:n≤l.length) {k:Nat} (hk:k<n):k∈l:=by
 refine Classical.byContradiction fun hc=>?_
 have:=EY n (k :: l) (List.nodup_cons.2 ⟨hc,h⟩) (fun j hj=>by
  rcases List.mem_cons.1 hj with rfl|hj
  ·exact hk
  ·exact hl j hj)
 simp at this
 omega
theorem dU {d:List AK} (hl:d.length≤(BX d).length) {x:AK} (hx:x∈d):∃s∈BX d,Ar s x.1=true:=by
 have hA:=(Vp d).ok
 have h1:=Jm d hA
 have h0:=E3 hx
 have hd:=DS d x.1
 have h2:=dT (n:=d.length) h1 (fun j hj=>by
  obtain⟨s,hs,rfl⟩:=List.mem_map.1 hj
  have h1:=hA.decl s hs
  rcases DS d s with g|⟨_,g,_⟩<;>omega) (by simpa using hl) (k:=(BB d x.1).toNat) (by omega)
 obtain⟨s,hs,e⟩:=List.mem_map.1 h2
 refine⟨s,hs,?_⟩
 rcases DS d s with g|⟨_,_,g1⟩
 ·have:=hA.decl s hs;omega
 ·rcases hd with g|⟨_,_,g2⟩
  ·omega
  ·rw[e]at g1
   exact CA (E2 g1) g2
def HX (d:List AK) (s:ByteArray):Nat:=(BX d).findIdx fun x=>Ar x s
theorem NA (d:List AK) {s t:ByteArray} (h:Ar s t=true):HX d s=HX d t:=by
 unfold HX
 congr 1
 funext x
 cases h1:Ar x s with
 | true=>exact(CA h1 h).symm
 | false =>
  cases h2:Ar x t with
  | false=>rfl
  | true=>rw[CA h2 (E2 h)]at h1;cases h1
theorem NB {d:List AK} (hn:Dd d=0) (hl:d.length≤(BX d).length) {x:AK} (hx:x∈d) {s:ByteArray} (hs:Ad x.2.1 s=true):HX d s<HX d x.1:=by
 obtain⟨t,ht,e⟩:=dU hl hx
 have hlt:HX d x.1<(BX d).length:=List.findIdx_lt_length_of_exists ⟨t,ht,e⟩
 have heq:Ar ((BX d)[HX d x.1]) x.1=true:=List.findIdx_getElem (w:=hlt)
 obtain⟨y,hy,e1,-,h3⟩:=Vp d (HX d x.1) hlt
 rw[List.getD_eq_getElem?_getD,List.getElem?_eq_getElem hlt]at e1
 have e1:y.1=(BX d)[HX d x.1]:=e1
 rw[←e1]at heq
 have hyx:=Zj hn hy hx heq
 subst hyx
 obtain⟨u,hu,eu⟩:=List.any_eq_true.1 hs
 have h4:Ad ((BX d).take (HX d y.1)) u=true:=List.all_eq_true.1 h3 u hu
 obtain⟨v,hv,ev⟩:=List.any_eq_true.1 h4
 rw[List.mem_take_iff_getElem]at hv
 obtain⟨i,hi,rfl⟩:=hv
 have hi2:i<HX d y.1:=by omega
 refine Nat.lt_of_le_of_lt ?_ hi2
 refine Classical.byContradiction fun hc=>?_
 have h5:=List.not_of_lt_findIdx (p:=fun x=>Ar x s) (xs:=BX d) (i:=i) (by unfold HX at hc;omega)
 have h6:Ar ((BX d)[i]) s=true:=CA ev eu
 try simp only at h5
 rw[h6]at h5
 exact absurd h5 (by simp)
def Uk (d:List AK) (s x:ByteArray):Prop:=Ar s x=true∨HX d s<HX d x
theorem rE {d:List AK} (hn:Dd d=0) (hl:d.length≤(BX d).length) {s c:ByteArray} (hc:Uk d s c) {o:List ByteArray} (ho:∀x∈o,Uk d s x) {x:AK} (hx:x∈d):∀y∈FK c o x,Uk d s y:=by
 intro y hy
 unfold FK at hy
 split at hy
 ·rename_i h
  rw[Bool.and_eq_true]at h
  rcases List.mem_append.1 hy with hy|hy
  ·exact ho y hy
  ·have:y=x.1:=by simpa using hy
   subst this
   have h1:=NB hn hl hx h.1
   right
   rcases hc with hc|hc
   ·rw[NA d hc];exact h1
   ·omega
 ·exact ho y hy
theorem TC {d:List AK} (hn:Dd d=0) (hl:d.length≤(BX d).length) {s c:ByteArray} (hc:Uk d s c):∀ {l:List AK} {o:List ByteArray},(∀x∈l,x∈d)→(∀x∈o,Uk d s x)→∀y∈l.foldl (FK c) o,Uk d s y
 | [],_,_,ho=>ho
 | x :: l,o,hx,ho=>by
  rw[List.foldl_cons]
  exact TC hn hl hc (fun y hy=>hx y (by simp[hy])) (rE hn hl hc ho (hx x (by simp)))
theorem Qu {d:List AK} (hn:Dd d=0) (hl:d.length≤(BX d).length) {s:ByteArray}:∀ {n i:Nat} {o:List ByteArray},(∀x∈o,Uk d s x)→∀y∈De d n i o,Uk d s y
 | 0,_,_,ho=>ho
 | n+1,i,o,ho=>by
  unfold De
  split
  ·rename_i hi
   exact Qu hn hl (TC hn hl (ho _ (DM hi)) (fun _ h=>h) ho)
  ·exact ho
theorem wR {c:ByteArray} {o:List ByteArray} {x:AK} {y:ByteArray} (h:y∈o):y∈FK c o x:=by
 unfold FK
 split
 ·exact List.mem_append.2 (.inl h)
 ·exact h
theorem L4 {c:ByteArray} {y:ByteArray}:∀ {l:List AK} {o:List ByteArray},y∈o→y∈l.foldl (FK c) o
 | [],_,h=>h
 | x :: l,o,h=>by rw[List.foldl_cons];exact L4 (wR h)
theorem NC {d:List AK} {y:ByteArray}:∀ {n i:Nat} {o:List ByteArray},y∈o→y∈De d n i o
 | 0,_,_,h=>h
 | n+1,i,o,h=>by
  unfold De
  split
  ·exact NC (L4 h)
  ·exact h
theorem Oc {l:List ByteArray} {s x:ByteArray} (h:x∈D6 l s):x∈l∨x=s:=by
  unfold D6 at h
  split at h
  · exact .inl h
  · simp only[List.mem_append,List.mem_cons,List.mem_singleton]at h
    rcases h with h|h
    · first
        | exact .inl (List.mem_of_mem_take h)
        | (rcases h with h | h
           · exact .inl (List.mem_of_mem_take h)
           · exact .inr (by simpa using h))
    · first
        | exact .inl (List.mem_of_mem_drop h)
        | (rcases h with h | h
           · exact .inr h
           · exact .inl (List.mem_of_mem_drop h))
theorem Vq {l:List ByteArray} {s x:ByteArray} (h:x∈l):x∈D6 l s:=by
 unfold D6
 split
 ·exact h
 ·have h2:x∈l.take (tM l s)∨x∈l.drop (tM l s):=List.mem_append.1 (by rw[List.take_append_drop];exact h)
  simp only[List.mem_append,List.mem_cons,List.mem_singleton]
  rcases h2 with h2|h2<;>simp[h2]
theorem Zk {l:List ByteArray} {s:ByteArray}:Ad (D6 l s) s=true:=by
  unfold D6
  split
  · rename_i h
    first
      | exact GP l ByteArray.empty _ h.1 h.2
      | (have h : tM l s < l.length ∧ Ar (l.getD (tM l s) ByteArray.empty) s = true := by simpa using h
         exact GP l ByteArray.empty _ h.1 h.2)
  · unfold Ad
    rw[List.any_eq_true]
    exact⟨s,by simp,E1 s⟩
theorem L5 {l:List ByteArray} {s:ByteArray} (h:s∈l):Ad l s=true:=List.any_eq_true.2 ⟨s,h,E1 s⟩
theorem L6 {l m:List ByteArray} {s:ByteArray} (hs:∀x∈l,x∈m) (h:Ad l s=true):Ad m s=true:=by
 obtain⟨x,hx,e⟩:=List.any_eq_true.1 h
 exact List.any_eq_true.2 ⟨x,hs x hx,e⟩
theorem Zl:∀ {l o:List ByteArray} {x:ByteArray},x∈l.foldl D6 o→x∈o∨x∈l
 | [],_,_,h=>.inl h
 | y :: l,o,x,h=>by
  rw[List.foldl_cons]at h
  rcases Zl h with h|h
  ·rcases Oc h with h|h
   ·exact .inl h
   ·exact .inr (by simp[h])
  ·exact .inr (by simp[h])
theorem Vr:∀ {l o:List ByteArray} {x:ByteArray},x∈o→x∈l.foldl D6 o
 | [],_,_,h=>h
 | y :: l,o,x,h=>by rw[List.foldl_cons];exact Vr (Vq h)
theorem TD:∀ {l o:List ByteArray} {x:ByteArray},x∈l→Ad (l.foldl D6 o) x=true
 | [],_,_,h=>by cases h
 | y :: l,o,x,h=>by
  rw[List.foldl_cons]
  rcases List.mem_cons.1 h with rfl|h
  ·exact L6 (fun z hz=>Vr hz) (Zk (l:=o) (s:=x))
  ·exact TD h
theorem ND {d:List AK} {s:ByteArray} (h:0≤BB d s):Ad (Df d s) s=true:=by
 unfold Df
 rw[if_neg (by omega)]
 exact TD (NC (by simp))
theorem TE {d:List AK} (hn:Dd d=0) (hl:d.length≤(BX d).length) {s x:ByteArray} (h:Ad (Df d s) x=true):Uk d s x:=by
 obtain⟨y,hy,e⟩:=List.any_eq_true.1 h
 have hb:Uk d s y:=by
  unfold Df at hy
  split at hy
  ·cases hy
  ·rcases Zl hy with hy|hy
   ·cases hy
   ·refine Qu hn hl (fun z hz=>?_) y hy
    have:z=s:=by simpa using hz
    rw[this]
    exact .inl (E1 s)
 rcases hb with hb|hb
 ·exact .inl (CA hb e)
 ·rw[NA d e]at hb
  exact .inr hb
theorem F6 {d:List AK} {s:ByteArray} (h:s∈AX d):∃x∈d,x.1=s:=by
 have key:∀(l:List AK) (o:List ByteArray),s∈l.foldl (fun o x=>D6 o x.1) o→s∈o∨∃x∈l,x.1=s:=by
  intro l
  induction l with
  | nil=>intro o h;exact .inl h
  | cons x l ih =>
   intro o h
   rw[List.foldl_cons]at h
   rcases ih _ h with h|⟨y,hy,e⟩
   ·rcases Oc h with h|h
    ·exact .inl h
    ·exact .inr ⟨x,by simp,h.symm⟩
   ·exact .inr ⟨y,by simp[hy],e⟩
 rcases key d [] h with h|h
 ·cases h
 ·exact h
theorem TF {d:List AK} {x:AK} (h:x∈d):Ad (AX d) x.1=true:=by
 have keep:∀(l:List AK) (o:List ByteArray),∀y∈o,y∈l.foldl (fun o x=>D6 o x.1) o:=by
  intro l
  induction l with
  | nil=>intro o y h;exact h
  | cons x l ih=>intro o y h;rw[List.foldl_cons];exact ih _ y (Vq h)
 have key:∀(l:List AK) (o:List ByteArray),x∈l→Ad (l.foldl (fun o x=>D6 o x.1) o) x.1=true:=by
  intro l
  induction l with
  | nil=>intro o h;cases h
  | cons y l ih =>
   intro o h
   rw[List.foldl_cons]
   rcases List.mem_cons.1 h with rfl|h
   ·exact L6 (keep l _) (Zk (l:=o) (s:=x.1))
   ·exact ih _ h
 exact key d [] h
theorem Zm {d:List AK} (hn:Dd d=0) (hl:d.length≤(BX d).length) (h2:d.length≤256) {i j:Nat} (hi:i<(AX d).length) (hj:j<(AX d).length)
  (h:Fc (Gj d (AX d) ((AX d).getD i ByteArray.empty)) (Gj d (AX d) ((AX d).getD j ByteArray.empty))=true):Ar ((AX d).getD i ByteArray.empty) ((AX d).getD j ByteArray.empty)=true:=by
 have hnl:=E0 d d.length
 rw[List.take_length]at hnl
 have hal:(AX d).length≤4096:=by omega
 generalize hs:(AX d).getD i ByteArray.empty=s at *
 generalize ht:(AX d).getD j ByteArray.empty=t at *
 have hsd:0≤BB d s:=by
  obtain⟨x,hx,e⟩:=F6 (s:=s) (by rw[←hs];exact DM hi)
  rw[←e];exact E3 hx
 have htd:0≤BB d t:=by
  obtain⟨x,hx,e⟩:=F6 (s:=t) (by rw[←ht];exact DM hj)
  rw[←e];exact E3 hx
 obtain⟨c1,w1,-⟩:=EM (d:=d) hal s i
 obtain⟨c2,w2,-⟩:=EM (d:=d) hal t i
 obtain⟨c3,-,-⟩:=EM (d:=d) hal s j
 obtain⟨c4,-,-⟩:=EM (d:=d) hal t j
 unfold Fc at h
 rw[Bool.and_eq_true]at h
 have b1:=TE hn hl (c2.1 (K3 w1 w2 h.1 (c1.2 ⟨hi,by rw[hs];exact ND hsd⟩))).2
 have b2:=TE hn hl (c3.1 (K3 w2 w1 h.2 (c4.2 ⟨hj,by rw[ht];exact ND htd⟩))).2
 rw[hs]at b1
 rw[ht]at b2
 rcases b1 with b1|b1
 ·exact E2 b1
 ·rcases b2 with b2|b2
  ·exact b2
  ·omega
end
/- Functions of grammarlabref04: name. -/
section
attribute [local go_sem] Rj dL HV cs0 cs1
def nmG (d:List AK) (all:List ByteArray) (codes:List (List Int)) (b:List Int):Nat→Nat→List ByteArray→ByteArray ⊕ List ByteArray
 | 0,_,l=>.inr l
 | n+1,i,l=>if Fc (codes.getD i []) b=true then .inl (all.getD i ByteArray.empty) else nmG d all codes b n (i+1) (if Sz b (i:Int)=true then l++[all.getD i ByteArray.empty] else l)
def Zn (l:List ByteArray) (s:ByteArray) (i:Nat):ByteArray:=(if 0<(i:Int) then s++ByteArray.mk #[38] else s)++l.getD i ByteArray.empty
def wS (l:List ByteArray):ByteArray:=(List.range l.length).foldl (Zn l) ByteArray.empty
def HY (d:List AK) (all:List ByteArray) (codes:List (List Int)) (b:List Int):ByteArray :=
 match nmG d all codes b all.length 0 [] with
 | .inl s=>s
 | .inr l=>wS (Bw d l)
theorem Mg {d:List AK} {x:ByteArray}:∀ {l o:List ByteArray},x∈l.foldl (KA d) o→x∈o∨x∈l
 | [],_,h=>.inl h
 | y :: l,o,h=>by
  rw[List.foldl_cons]at h
  rcases Mg h with h|h
  ·unfold KA at h
   split at h
   ·rcases Oc h with h|h
    ·exact .inl h
    ·exact .inr (by simp[h])
   ·exact .inl h
  ·exact .inr (by simp[h])
theorem Xd {d:List AK} {l:List ByteArray} {x:ByteArray} (h:x∈Bw d l):x∈l:=by
 unfold Bw RQ at h
 obtain⟨i,hi,rfl⟩:=List.mem_map.1 h
 rw[List.mem_filter,List.mem_range]at hi
 rcases Mg (DM (d:=ByteArray.empty) hi.1) with h|h
 ·cases h
 ·exact h
theorem Xe (d:List AK) (l:List ByteArray):(Bw d l).length≤l.length:=Nat.le_trans (Zc _ _ _) (IV d l)
theorem dV {l:List ByteArray} (h:∀s∈l,s.size≤32) (k:Nat):(l.getD k ByteArray.empty).size≤32:=by
 rw[List.getD_eq_getElem?_getD]
 cases hh:l[k]? with
 | none=>simp
 | some x=>exact h x (List.mem_of_getElem? hh)
def TG (l:List ByteArray) (n:Nat):ByteArray:=(List.range n).foldl (Zn l) ByteArray.empty
theorem TH (l:List ByteArray) (n:Nat):TG l (n+1)=Zn l (TG l n) n:=by
 unfold TG
 rw[List.range_succ,List.foldl_append]
 rfl
theorem TJ {l:List ByteArray} (h:∀s∈l,s.size≤32):∀n,(TG l n).size≤33*n
 | 0=>by simp[TG]
 | n+1=>by
  have h1:=TJ h n
  have h2:=dV h n
  rw[TH]
  unfold Zn
  split
  ·rw[ByteArray.size_append,ByteArray.size_append]
   have:(ByteArray.mk #[38]).size=1:=rfl
   omega
  ·rw[ByteArray.size_append]
   omega
def Rn:Af:={ ins:=[Ec,Bo,RN,BA],pre:=fun(d,all,codes,b,_)=>S3 d∧List.length d≤256∧List.length all≤256∧List.length codes=List.length all∧(∀s∈(all:List ByteArray),s.size≤32)∧(∀x∈(codes:List (List Int)),x.length≤64)∧List.length b≤64,out:=fun(d,all,codes,b,_)=>[.p T9 (HY d all codes b)] }
theorem rF:Al Tryz.prog 137 Rn:=by
 refine AU Tryz.func137 (by kernel_rfl) rfl Tryz.ntmps137 (by decide) (by kernel_rfl) (AG [(186,Rj),(187,dL),(188,HV)]) (AF qS (AF wC (AF S7 AJ))) ?_
 rintro w0 O0 ⟨d,all,codes,b,u⟩ hc-⟨hs,hd,hall,hcd,hsz,hcw,hb⟩
 have hall:all.length≤256:=hall
 have hcd:codes.length=all.length:=hcd
 simp only[Rn,AN]
 repeat'(first|exact trivial|refine eS rfl ?_|refine AB ?_|refine rX [0,1,2,3,8,9,10,11,12,16,24,31,45,49] hc ?_ ?_|refine rC ?_ ?_<;>intro AA<;>try(cases AA;done))
 refine AL (ι:={x:Nat×List ByteArray//x.1≤all.length∧x.2.length≤x.1∧(∀s∈x.2,s.size≤32)∧nmG d all codes b (all.length-x.1) x.1 x.2=nmG d all codes b all.length 0 []}) (fun x=>⟨[(0,.p Ec d),(1,.p Bo all),(2,.p RN codes),(3,.p BA b),(9,.sr 38 T9 0 x.1.2.length),(10,.p (.int .i64) (x.1.1:Int))],[(38,.arr 9 T9 x.1.2)]⟩) (fun x=>all.length-x.1.1) ⟨(0,[]),by simp,by simp,by simp,rfl⟩ (AC [(38,.nil)] rfl rfl ?_ ?_) (fun x=>?_)
 ·first|exact eN|refine eM ?_
 ·first|exact eN|refine eM ?_
 ·obtain⟨⟨i,l⟩,hi,hli,hls,hg⟩:=x
  simp only at hi hli hls hg
  have hstep:i<all.length→nmG d all codes b (all.length-i) i l=if Fc (codes.getD i []) b=true then .inl (all.getD i ByteArray.empty) else nmG d all codes b (all.length-(i+1)) (i+1) (if Sz b (i:Int)=true then l++[all.getD i ByteArray.empty] else l):=by
   intro h
   rw[show all.length-i=(all.length-(i+1))+1 by omega]
   rfl
  simp only
  repeat'(first|exact trivial|refine eS rfl ?_|refine AB ?_|refine rX [0,1,2,3,8,9,10,11,12,16,24,31,45,49] hc ?_ ?_|refine rC ?_ ?_<;>intro AA<;>try(cases AA;done))
  ·exact⟨by rw[hcd];exact AA,Nat.le_trans (K2 hcw i) (by decide),Nat.le_trans hb (by decide)⟩
  ·assumption
  ·have hi2:i<all.length:=by exact eV
   have hr:HY d all codes b=all.getD i ByteArray.empty:=by
    unfold HY
    rw[←hg,hstep hi2,if_pos AA]
   exact AH hc [.tmp 8] rfl (.inl rfl) (by simp) (by rw[hr];first|exact eR|refine Aw ?_)
  ·have hi2:i<all.length:=by exact eV
   exact⟨Int.ofNat_lt.2 hi2,by simp only[AP];omega⟩
  ·exact eV
  ·have hi2:i<all.length:=by exact eV
   have hn:=hstep hi2
   rw[if_neg (by rw[‹Fc _ _=false›];simp),if_pos AA]at hn
   refine⟨⟨(i+1,l++[all.getD i ByteArray.empty]),by simp only;omega,by simp only[List.length_append,List.length_singleton];omega,?_,hn.symm.trans hg⟩,by simp only;omega,AC [(38,.nm 38)] rfl rfl ?_ ?_⟩
   ·intro s hs
    rcases List.mem_append.1 hs with hs|hs
    ·exact hls s hs
    ·have:s=all.getD i ByteArray.empty:=by simpa using hs
     rw[this]
     exact dV hsz i
   ·first|exact eN|refine eM ?_
   ·first|exact eN|refine eM ?_
  ·exact eV
  ·have hi2:i<all.length:=by exact eV
   have hn:=hstep hi2
   rw[if_neg (by rw[‹Fc _ _=false›];simp),if_neg (by rw[AA];simp)]at hn
   refine⟨⟨(i+1,l),by simp only;omega,by simp only;omega,hls,hn.symm.trans hg⟩,by simp only;omega,AC [(38,.nm 38)] rfl rfl ?_ ?_⟩
   ·first|exact eN|refine eM ?_
   ·first|exact eN|refine eM ?_
  ·have hr:HY d all codes b=wS (Bw d l):=by
    unfold HY
    rw[←hg]
    have:all.length-i=0:=by exact eV
    rw[this]
    rfl
   refine Gr [38] ?_
   repeat'(first|exact trivial|refine eS rfl ?_|refine AB ?_|refine rX [0,1,2,3,8,9,10,11,12,16,24,31,45,49] hc ?_ ?_|refine rC ?_ ?_<;>intro AA<;>try(cases AA;done))
   ·exact⟨hs,hd,by omega⟩
   ·have hmm:∀s∈Bw d l,s.size≤32:=fun s h=>hls s (Xd h)
    have hml:=Xe d l
    have hjf:wS (Bw d l)=TG (Bw d l) (Bw d l).length:=rfl
    rw[hjf]at hr
    generalize Bw d l=m at *
    refine AL (ι:={k:Nat//k≤m.length}) (fun k=>⟨[(9,.p Bo m),(11,.p T9 (TG m k.1)),(12,.p (.int .i64) (k.1:Int))],[]⟩) (fun k=>m.length-k.1) ⟨0,Nat.zero_le _⟩ (AC [] rfl rfl ?_ ?_) (fun k=>?_)
    ·first|exact eN|refine eM ?_
    ·first|exact eN|refine eM ?_
     rfl
    ·obtain⟨k,hk⟩:=k
     have hk:k≤m.length:=hk
     have hjs:=TJ hmm k
     have hss:=TH m k
     have hs2:=dV hmm k
     unfold Zn at hss
     simp only
     repeat'(first|exact trivial|refine eS rfl ?_|refine AB ?_|refine rX [0,1,2,3,8,9,10,11,12,16,24,31,45,49] hc ?_ ?_|refine rC ?_ ?_<;>intro AA<;>try(cases AA;done))
     ·have h1:(ByteArray.mk #[38]).size=1:=rfl
      rw[h1]
      simp only[AP]
      exact eV
     ·refine⟨by assumption,?_⟩
      have h1:(ByteArray.mk #[38]).size=1:=rfl
      rw[ByteArray.size_append,h1]
      simp only[AP]
      exact eV
     ·exact eV
     ·have hk2:k<m.length:=by exact eV
      rw[if_pos AA]at hss
      refine⟨⟨k+1,hk2⟩,by simp only;omega,AC [] rfl rfl ?_ ?_⟩
      ·first|exact eN|refine eM ?_
      ·simp only[hss]
       first|exact eN|refine eM ?_
     ·refine⟨by assumption,?_⟩
      simp only[AP]
      exact eV
     ·exact eV
     ·have hk2:k<m.length:=by exact eV
      rw[if_neg (Int.not_lt.2 AA)]at hss
      refine⟨⟨k+1,hk2⟩,by simp only;omega,AC [] rfl rfl ?_ ?_⟩
      ·first|exact eN|refine eM ?_
      ·simp only[hss]
       first|exact eN|refine eM ?_
     ·have hk2:k=m.length:=by exact eV
      rw[←hk2]at hr
      exact AH hc [.tmp 8] rfl (.inl rfl) (by simp) (by rw[hr];first|exact eR|refine Aw ?_)
end
/- Functions of grammarlabref04: Codes. -/
section
attribute [local go_sem] OT Jk nV Rm Rn Rl
def FF (x:AW) (out:List AW):Nat→Nat
 | 0=>0
 | n+1=>if Fd x (out.getD n c0)=true then FF x out n else n+1
def Xf (out:List AW) (x:AW):List AW:=out.take (FF x out out.length)++[x]++out.drop (FF x out out.length)
def Ah (d:List AK):List (List Int):=(AX d).map fun s=>Gj d (AX d) s
def F7 (d:List AK) (all:List ByteArray) (codes:List (List Int)) (out:List AW) (b:List Int):List AW:=Xf out (HY d all codes b,b)
def Pg (d:List AK):List AW→List Int→List AW:=F7 d (AX d) (Ah d)
theorem NE (d:List AK) (all:List ByteArray) (codes:List (List Int)):∀(l:List (List Int)) (o:List AW),(l.foldl (F7 d all codes) o).length=o.length+l.length
 | [],o=>by simp
 | b :: l,o=>by
  rw[List.foldl_cons,NE d all codes l]
  unfold F7 Xf
  simp only[List.length_append,List.length_take,List.length_drop,List.length_cons,List.length_nil]
  omega
theorem TK {d:List AK} {all:List ByteArray} {codes:List (List Int)}:∀ {l:List (List Int)} {o:List AW},(∀c∈l,c.length≤64)→(∀y∈o,y.2.length≤64)→∀y∈l.foldl (F7 d all codes) o,y.2.length≤64
 | [],_,_,ho=>ho
 | b :: l,o,hl,ho=>by
  rw[List.foldl_cons]
  refine TK (fun c hc=>hl c (by simp[hc])) (fun y hy=>?_)
  unfold F7 Xf at hy
  simp only[List.mem_append,List.mem_singleton]at hy
  rcases hy with (hy|hy)|hy
  ·exact ho y (List.mem_of_mem_take hy)
  ·rw[hy];exact hl b (by simp)
  ·exact ho y (List.mem_of_mem_drop hy)
theorem Zo (x:AW) (out:List AW):∀n,FF x out n≤n
 | 0=>Nat.le_refl _
 | n+1=>by
  unfold FF
  split
  ·exact Nat.le_succ_of_le (Zo x out n)
  ·exact Nat.le_refl _
def A0 (d:List AK):List AW:=(A1 (Ah d)).foldl (Pg d) []
def Bt (d:List AK):List AW×Int :=
 if BK d≠0 then ([],BK d) else if 256<(A1 (Ah d)).length then ([],7) else (A0 d,0)
theorem dW {s:ByteArray} {b:Bool} (h:Eh s b=true):s.size≤32:=by
 unfold Eh at h
 rw[Bool.and_eq_true]at h
 have h1:=h.1
 unfold PW at h1
 simp only[Bool.not_eq_true',Bool.or_eq_false_iff,decide_eq_false_iff_not]at h1
 have:=h1.1.1.2
 omega
theorem Zp {d:List AK} (hn:Dd d=0):∀s∈AX d,s.size≤32:=by
 intro s hs
 obtain⟨x,hx,rfl⟩:=F6 hs
 obtain⟨j,hj,rfl⟩:=Cu d0 hx
 exact dW (K4 hn j hj).2
def Jn (d:List AK) (n:Nat):List (List Int):=((AX d).take n).map fun s=>Gj d (AX d) s
theorem dX {d:List AK} {n:Nat} (h:n≤(AX d).length):(Jn d n).length=n:=by simp[Jn,h]
theorem Zq {d:List AK} {n:Nat} (h:n<(AX d).length):Jn d (n+1)=Jn d n++[Gj d (AX d) ((AX d).getD n ByteArray.empty)]:=by
 unfold Jn
 rw[Ac _ ByteArray.empty h,List.map_append]
 rfl
theorem dY (d:List AK):Jn d (AX d).length=Ah d:=by simp[Jn,Ah]
theorem dZ (d:List AK):(Ah d).length=(AX d).length:=by simp[Ah]
theorem NF {d:List AK} (h:d.length≤256):∀c∈Ah d,c.length≤64:=by
 intro c hc
 unfold Ah at hc
 obtain⟨s,-,rfl⟩:=List.mem_map.1 hc
 have hnl:=E0 d d.length
 rw[List.take_length]at hnl
 exact(EM (d:=d) (all:=AX d) (by omega) s 0).2.2
theorem Zr {i:Nat}:∀ {n k:Nat} {l:List (List Int)},(∀c∈l,c.length≤64)→∀c∈Ge i n k l,c.length≤64
 | 0,_,_,h=>h
 | n+1,k,l,h=>by
  unfold Ge
  split
  ·exact Zr (Zg h i k)
  ·exact h
theorem Od:∀ {n i:Nat} {l:List (List Int)},(∀c∈l,c.length≤64)→∀c∈IW n i l,c.length≤64
 | 0,_,_,h=>h
 | n+1,i,l,h=>by
  unfold IW
  split
  ·exact Od (Zr h)
  ·exact h
theorem Zs {out:List AW} {x y:AW}:y∈Xf out x↔y=x∨y∈out:=by
 unfold Xf
 rw[List.mem_append,List.mem_append,List.mem_singleton]
 have h:=List.mem_append (a:=y) (s:=out.take (FF x out out.length)) (t:=out.drop (FF x out out.length))
 rw[List.take_append_drop]at h
 rw[h]
 constructor
 ·rintro ((h|h)|h)
  ·exact .inr (.inl h)
  ·exact .inl h
  ·exact .inr (.inr h)
 ·rintro (h|h|h)
  ·exact .inl (.inr h)
  ·exact .inl (.inl h)
  ·exact .inr h
def IX:Af:={ ins:=[Ec],pre:=fun _=>True,out:=fun(d,_)=>[.p I2 (Bt d).1,.p ZO (Bt d).2] }
theorem Oe:Al Tryz.prog 97 IX:=by
 refine AU Tryz.func97 (by kernel_rfl) rfl Tryz.ntmps97 (by decide) (by kernel_rfl) (AG [(133,OT),(134,Jk),(135,nV),(136,Rm),(137,Rn),(138,Rl)]) (AF qY (AF Vf (AF A1M (AF rD (AF rF (AF rA AJ)))))) ?_
 rintro w0 O0 ⟨d,u⟩ hc - -
 simp only[IX,AN]
 repeat'(first|exact trivial|refine eS rfl ?_|refine AB ?_|refine rX [0,2,3,4,5,6,7,8,9,10,11,12,13,17,24,41,45,73] hc ?_ ?_|refine rC ?_ ?_<;>intro AA<;>try(cases AA;done))
 ·have h1:Bt d=([],BK d):=by unfold Bt;rw[if_pos AA]
  exact AH hc [.tmp 2,.tmp 3] rfl (.inl rfl) (by simp) (by rw[h1];first|exact eR|refine Aw ?_)
 ·have h3:BK d=0:=by simpa using AA
  obtain⟨-,h2,-⟩:=A7 h3
  exact Nat.le_trans h2 (by decide)
 ·have h3:BK d=0:=by simpa using AA
  obtain⟨hsup,hd,-,hn,-⟩:=A7 h3
  have hal:=E0 d d.length
  rw[List.take_length]at hal
  have hsz:=Zp hn
  refine AL (ι:={n:Nat//n≤(AX d).length}) (fun n=>⟨[(0,.p Ec d),(5,.p Bo (AX d)),(6,.sr 36 BA 0 (Jn d n.1).length),(7,.p (.int .i64) (n.1:Int))],[(36,.arr 142 BA (Jn d n.1))]⟩) (fun n=>(AX d).length-n.1) ⟨0,Nat.zero_le _⟩ (AC [(36,.nil)] rfl rfl ?_ ?_) (fun n=>?_)
  ·first|exact eN|refine eM ?_
   rfl
  ·first|exact eN|refine eM ?_
   rfl
  ·obtain⟨n,hnn⟩:=n
   have hcl:=dX hnn
   have hs:=fun h=>Zq (d:=d) (n:=n) h
   simp only
   repeat'(first|exact trivial|refine eS rfl ?_|refine AB ?_|refine rX [0,2,3,4,5,6,7,8,9,10,11,12,13,17,24,41,45,73] hc ?_ ?_|refine rC ?_ ?_<;>intro AA<;>try(cases AA;done))
   ·refine⟨AA,⟨hd,by dsimp only[Ty.den]at *;omega⟩,?_⟩
    simp only[AP]
    dsimp only[Ty.den]at *
    omega
   ·exact eV
   ·have hn2:n<(AX d).length:=by exact eV
    have e:=hs hn2
    refine⟨⟨n+1,by omega⟩,by simp only;omega,AC [(36,.nm 36)] rfl rfl ?_ ?_⟩
    ·simp only[e]
     first|exact eN|refine eM ?_
    ·simp only[e]
     first|exact eN|refine eM ?_
   ·have hn2:n=(AX d).length:=by exact eV
    subst hn2
    rw[dY]
    have hcL:=dZ d
    have hwid:=NF hd
    have hfw:∀c∈A1 (Ah d),c.length≤64:=Od hwid
    refine Gr [36] ?_
    repeat'(first|exact trivial|refine eS rfl ?_|refine AB ?_|refine rX [0,2,3,4,5,6,7,8,9,10,11,12,13,17,24,41,45,73] hc ?_ ?_|refine rC ?_ ?_<;>intro AA<;>try(cases AA;done))
    ·exact⟨by omega,hwid⟩
    ·have h1:Bt d=([],7):=by
      unfold Bt
      rw[if_neg (by rw[h3];simp),if_pos (by omega)]
     exact AH hc [.tmp 2,.tmp 3] rfl (.inl rfl) (by simp) (by rw[h1];first|exact eR|refine Aw ?_)
    ·have hr:Bt d=((A1 (Ah d)).foldl (F7 d (AX d) (Ah d)) [],0):=by
      unfold Bt
      rw[if_neg (by rw[h3];simp),if_neg (by omega)]
      rfl
     generalize A1 (Ah d)=fam at *
     generalize Ah d=codes at *
     generalize AX d=all at *
     refine AL (ι:={k:Nat//k≤fam.length}) (fun k=>⟨[(0,.p Ec d),(5,.p Bo all),(6,.p RN codes),(8,.p RN fam),(9,.sr 9 XR 0 ((fam.take k.1).foldl (F7 d all codes) []).length),(10,.p (.int .i64) (k.1:Int))],[(9,.arr 144 XR ((fam.take k.1).foldl (F7 d all codes) []))]⟩) (fun k=>fam.length-k.1) ⟨0,Nat.zero_le _⟩ (AC [(9,.nil)] rfl rfl ?_ ?_) (fun k=>?_)
     ·first|exact eN|refine eM ?_
      rfl
     ·first|exact eN|refine eM ?_
      rfl
     ·obtain⟨k,hk⟩:=k
      have hol:=NE d all codes (fam.take k) []
      have htl:(fam.take k).length=k:=by rw[List.length_take];exact Nat.min_eq_left hk
      have how:=TK (d:=d) (all:=all) (codes:=codes) (l:=fam.take k) (o:=[]) (fun c hc=>hfw c (List.mem_of_mem_take hc)) (by simp)
      have hss:=fun h:k<fam.length=>EZ (F7 d all codes) fam [] [] h
      rw[htl]at hol
      simp only[List.length_nil,Nat.zero_add]at hol
      generalize ho:(fam.take k).foldl (F7 d all codes) []=out at *
      simp only
      repeat'(first|exact trivial|refine eS rfl ?_|refine AB ?_|refine rX [0,2,3,4,5,6,7,8,9,10,11,12,13,17,24,41,45,73] hc ?_ ?_|refine rC ?_ ?_<;>intro AA<;>try(cases AA;done))
      ·exact⟨AA,⟨hsup,hd,by omega,hcL,hsz,hwid,K2 hfw k⟩,AA⟩
      ·have hk2:k<fam.length:=by exact eV
       have e:=hss hk2
       have hbw:=K2 hfw k
       generalize fam.getD k []=b at *
       unfold F7 at e
       generalize HY d all codes b=nm at *
       refine AL (ι:={q:Nat//q≤out.length∧FF (nm,b) out q=FF (nm,b) out out.length}) (fun q=>⟨[(0,.p Ec d),(5,.p Bo all),(6,.p RN codes),(8,.p RN fam),(9,.sr 9 XR 0 out.length),(10,.p (.int .i64) (k:Int)),(11,.bp 11 [] 0),(12,.p (.int .i64) (q.1:Int))],[(9,.arr 144 XR out),(11,.box 144 true [.p T9 nm,.p BA b])]⟩) (fun q=>q.1) ⟨out.length,Nat.le_refl _,rfl⟩ (AC [(9,.nm 9),(11,.nm 11)] rfl rfl ?_ ?_) (fun q=>?_)
       ·first|exact eN|refine eM ?_
       ·first|exact eN|refine eM ?_
       ·obtain⟨q,hq,hins⟩:=q
        have hq:q≤out.length:=hq
        simp only
        repeat'(first|exact trivial|refine eS rfl ?_|refine AB ?_|refine rX [0,2,3,4,5,6,7,8,9,10,11,12,13,17,24,41,45,73] hc ?_ ?_|refine rC ?_ ?_<;>intro AA<;>try(cases AA;done))
        ·refine⟨fun h=>by omega,fun h=>by exact eV,fun h=>⟨Nat.le_trans hbw (by decide),Nat.le_trans (how _ (AD out c0 (k:=((q:Int)-1).toNat) (by omega))) (by decide)⟩⟩
        ·omega
        ·obtain⟨g1,g2⟩:=AA
         obtain⟨q,rfl⟩:∃r,q=r+1:=⟨q-1,by omega⟩
         have g3:((q+1:Nat):Int)-1=(q:Int):=by omega
         refine⟨⟨q,by omega,?_⟩,Nat.lt_succ_self q,AC [(9,.nm 9),(11,.nm 11)] rfl rfl ?_ ?_⟩
         ·rw[←hins]
          rw[g3,Int.toNat_natCast]at g2
          show _=if Fd (nm,b) (out.getD q c0)=true then FF (nm,b) out q else q+1
          rw[if_pos g2]
         ·first|exact eN|refine eM ?_
         ·first|exact eN|refine eM ?_
          show (q:Int)+1-1=q
          omega
        ·refine⟨Int.ofNat_le.2 hq,?_⟩
         rw[List.length_take]
         simp only[AP]
         omega
        ·rw[List.length_take]
         simp only[AP]
         omega
        ·refine⟨Int.ofNat_le.2 hq,?_⟩
         rw[List.length_take,List.length_drop]
         simp only[AP]
         omega
        ·omega
        ·have hpos:FF (nm,b) out q=q:=by
          cases q with
          | zero=>rfl
          | succ q =>
           have g3:((q+1:Nat):Int)-1=(q:Int):=by omega
           have:=AA (by omega)
           rw[g3,Int.toNat_natCast]at this
           show (if Fd (nm,b) (out.getD q c0)=true then FF (nm,b) out q else q+1)=q+1
           rw[if_neg (by rw[this];simp)]
         unfold Xf at e
         rw[←hins,hpos]at e
         refine⟨⟨k+1,by omega⟩,by simp only;omega,AC [(9,.nm 80)] rfl rfl ?_ ?_⟩
         ·first|exact eN|refine eM ?_
          exact e.symm
         ·first|exact eN|refine eM ?_
          have e2:=congrArg List.length e
          rw[List.length_append,List.length_append]at e2
          exact e2.symm
      ·have hk2:k=fam.length:=by exact eV
       rw[hk2,List.take_length]at ho
       rw[ho]at hr
       refine Gr [9] ?_
       exact AH hc [.tmp 2,.tmp 3] rfl (.inl rfl) (by simp) (by rw[hr];first|exact eR|refine Aw ?_)
end
/- Plain: each declared type has a number among the codes. -/
section
theorem Vs {d:List AK}:∀ {l:List (List Int)} {o:List AW} {y:AW},y∈l.foldl (Pg d) o↔y∈o∨∃b∈l,y=(HY d (AX d) (Ah d) b,b)
 | [],o,y=>by simp
 | b :: l,o,y=>by
  rw[List.foldl_cons,Vs]
  unfold Pg F7
  rw[Zs]
  simp only[List.mem_cons]
  constructor
  ·rintro ((h|h)|⟨c,hc,e⟩)
   ·exact .inr ⟨b,.inl rfl,h⟩
   ·exact .inl h
   ·exact .inr ⟨c,.inr hc,e⟩
  ·rintro (h|⟨c,rfl|hc,e⟩)
   ·exact .inl (.inr h)
   ·exact .inl (.inl e)
   ·exact .inr ⟨c,hc,e⟩
theorem Dh {d:List AK} {y:AW}:y∈A0 d↔∃b∈A1 (Ah d),y=(HY d (AX d) (Ah d) b,b):=by
 unfold A0
 rw[Vs]
 simp
theorem HZ (d:List AK):(A0 d).length=(A1 (Ah d)).length:=by
 have h:=NE d (AX d) (Ah d) (A1 (Ah d)) []
 rw[List.length_nil,Nat.zero_add]at h
 exact h
theorem wT {l:List (List Int)} {i k:Nat} {c:List Int} (h:c∈l):c∈Gd l i k:=by
 unfold Gd
 split
 ·exact List.mem_append.2 (.inl h)
 ·exact h
theorem Zt {i:Nat} {c:List Int}:∀ {n k:Nat} {l:List (List Int)},c∈l→c∈Ge i n k l
 | 0,_,_,h=>h
 | n+1,k,l,h=>by
  unfold Ge
  split
  ·exact Zt (wT h)
  ·exact h
theorem Zu {c:List Int}:∀ {n i:Nat} {l:List (List Int)},c∈l→c∈IW n i l
 | 0,_,_,h=>h
 | n+1,i,l,h=>by
  unfold IW
  split
  ·exact Zu (Zt h)
  ·exact h
theorem Qv (d:List AK) {i:Nat} (h:i<(AX d).length):(Ah d).getD i []=Gj d (AX d) ((AX d).getD i ByteArray.empty):=by
 unfold Ah
 simp[List.getD_eq_getElem?_getD,h]
theorem nW {d:List AK} (hn:Dd d=0) (hl:d.length≤(BX d).length) (h2:d.length≤256) {j:Nat} (hj:j<(AX d).length):∀(m i:Nat) (l:List ByteArray),i+m=(AX d).length→i≤j →
  ∃s,nmG d (AX d) (Ah d) ((Ah d).getD j []) m i l=.inl s∧Ar s ((AX d).getD j ByteArray.empty)=true
 | 0,i,l,h,hij=>by omega
 | m+1,i,l,h,hij=>by
  unfold nmG
  split
  ·rename_i he
   refine⟨_,rfl,?_⟩
   rw[Qv d (by omega),Qv d hj]at he
   exact Zm hn hl h2 (by omega) hj he
  ·rename_i he
   have hne:i≠j:=by
    intro e
    subst e
    exact he (Zi _)
   exact nW hn hl h2 hj m (i+1) _ (by omega) (by omega)
theorem nX (s:ByteArray):∀(l:List AW) (k:Nat),Pb s k l<((k+l.length:Nat):Int)
 | [],k=>by simp only[Pb];omega
 | x :: l,k=>by
  simp only[Pb]
  split
  ·simp only[List.length_cons];omega
  ·have:=nX s l (k+1)
   simp only[List.length_cons]
   omega
theorem nY (s:ByteArray):∀(l:List AW) (k:Nat) (x:AW),x∈l→Ar x.1 s=true→0≤Pb s k l
 | [],_,_,h,_=>by cases h
 | y :: l,k,x,h,e=>by
  simp only[Pb]
  split
  ·omega
  ·rename_i hy
   rcases List.mem_cons.1 h with rfl|h
   ·exact absurd e hy
   ·exact nY s l (k+1) x h e
theorem d3 (l:List AW) (s:ByteArray):DJ l s<(l.length:Int):=by
 have:=nX s l 0
 rw[Nat.zero_add]at this
 exact this
theorem Qw {d:List AK} (h:BK d=0) {s:ByteArray} (hs:Ad (AX d) s=true):0≤DJ (A0 d) s:=by
 obtain⟨-,h2,-,hn,hl⟩:=A7 h
 obtain⟨t,ht,e⟩:=List.any_eq_true.1 hs
 obtain⟨j,hj,rfl⟩:=Cu ByteArray.empty ht
 obtain⟨u,hu,eu⟩:=nW hn hl h2 hj (AX d).length 0 [] (by omega) (by omega)
 have hlen:(Ah d).length=(AX d).length:=by simp[Ah]
 refine nY s (A0 d) 0 (u,(Ah d).getD j []) ?_ (CA eu e)
 rw[Dh]
 refine⟨(Ah d).getD j [],Zu (DM (by omega)),?_⟩
 unfold HY
 rw[hu]
theorem Qx {d:List AK} (h:BK d=0) {x:AK} (hx:x∈d):0≤DJ (A0 d) x.1:=Qw h (TF hx)
theorem Bc {d:List AK} (h:(Bt d).2=0):BK d=0∧(A1 (Ah d)).length≤256∧(Bt d).1=A0 d:=by
 unfold Bt at h ⊢
 split at h
 ·rename_i h1;exact absurd h h1
 ·rename_i h1
  split at h
  ·cases h
  ·rename_i h2
   exact⟨Classical.byContradiction h1,by omega,by rw[if_neg h1,if_neg h2]⟩
theorem A1S {d:List AK} (h:BK d=0):0<(A0 d).length:=by
 obtain⟨-,-,hr,-,-⟩:=A7 h
 cases d with
 | nil=>cases hr
 | cons x d =>
  have:=Qx h (x:=x) (by simp)
  have h2:=d3 (A0 (x :: d)) x.1
  omega
end
/- Functions of grammarlabref04: Supers. -/
section
attribute [local go_sem] Vj
def A3z (l:List AW) (i k:Int) (m:Nat):Bool:=(m:Int)==i||(m:Int)==k||!Mf l k (m:Int)||!Mf l (m:Int) i
def rG (l:List AW) (i k:Int) (n:Nat):Bool:=(List.range n).all (A3z l i k)
def rH (l:List AW) (i:Int) (k:Nat):Bool:=!((k:Int)==i||!Mf l (k:Int) i)&&rG l i (k:Int) l.length
def Mh (l:List AW) (i:Int) (n:Nat):List Int:=((List.range n).filter fun(k:Nat)=>rH l i k).map fun(k:Nat)=>(k:Int)
def Zv (l:List AW) (i:Int):List Int:=Mh l i l.length
theorem d4 (l:List AW) (i:Int) (n:Nat):Mh l i (n+1)=Mh l i n++if rH l i n=true then [(n:Int)] else []:=by
 unfold Mh
 rw[List.range_succ,List.filter_append,List.map_append]
 congr 1
 rw[List.filter_cons,List.filter_nil]
 split<;>rfl
theorem rI (l:List AW) (i:Int) (n:Nat):(Mh l i n).length≤n:=by
 unfold Mh
 rw[List.length_map]
 exact Nat.le_trans (List.length_filter_le _ _) (by simp)
theorem rJ (l:List AW) (i k:Int) (n:Nat):rG l i k (n+1)=(rG l i k n&&A3z l i k n):=by
 unfold rG
 rw[List.range_succ,List.all_append]
 simp
def nZ:Af:={ ins:=[I2,T3],pre:=fun(l,i,_)=>((0:Int)≤i∧i<(List.length l:Int))∧List.length l≤256∧(∀x∈(l:List AW),x.2.length≤64),out:=fun(l,i,_)=>[.p Ek (Zv l i)] }
theorem A1T:Al Tryz.prog 98 nZ:=by
 refine AU Tryz.func98 (by kernel_rfl) rfl Tryz.ntmps98 (by decide) (by kernel_rfl) (AG [(139,Vj)]) (AF nU AJ) ?_
 rintro w0 O0 ⟨l,i,u⟩ hc-⟨hi,hl,hx⟩
 have hl:l.length≤256:=hl
 have hx2:∀x∈(l:List AW),x.2.length≤100000:=fun x h=>Nat.le_trans (hx x h) (by decide)
 simp only[nZ,AN]
 repeat'(first|exact trivial|refine eS rfl ?_|refine AB ?_|refine rX [0,1,4,5,6,7,8,12,24,28,56] hc ?_ ?_|refine rC ?_ ?_<;>intro AA<;>try(cases AA;done))
 refine AL (ι:={k:Nat//k≤l.length}) (fun k=>⟨[(0,.p I2 l),(1,.p T3 i),(5,.sr 60 T3 0 (Mh l i k.1).length),(6,.p (.int .i64) (k.1:Int))],[(60,.arr 3 T3 (Mh l i k.1))]⟩) (fun k=>l.length-k.1) ⟨0,Nat.zero_le _⟩ (AC [(60,.nil)] rfl rfl ?_ ?_) (fun k=>?_)
 ·first|exact eN|refine eM ?_
  rfl
 ·first|exact eN|refine eM ?_
  rfl
 ·obtain⟨k,hk⟩:=k
  have hk:k≤l.length:=hk
  have hz:=rI l i k
  have hs:=d4 l i k
  simp only
  repeat'(first|exact trivial|refine eS rfl ?_|refine AB ?_|refine rX [0,1,4,5,6,7,8,12,24,28,56] hc ?_ ?_|refine rC ?_ ?_<;>intro AA<;>try(cases AA;done))
  ·intro h
   exact⟨by assumption,hi,hx2⟩
  ·exact eV
  ·have hk2:k<l.length:=by exact eV
   have hb:rH l i k=false:=by
    unfold rH
    rw[Bool.and_eq_false_iff]
    left
    rw[Bool.not_eq_false',Bool.or_eq_true,beq_iff_eq,Bool.not_eq_true']
    exact AA
   rw[hb,if_neg (by simp),List.append_nil]at hs
   refine⟨⟨k+1,by omega⟩,by simp only;omega,AC [(60,.nm 60)] rfl rfl ?_ ?_⟩
   ·simp only[hs]
    first|exact eN|refine eM ?_
   ·simp only[hs]
    first|exact eN|refine eM ?_
  ·have hk2:k<l.length:=by exact eV
   have hb:rH l i k=rG l i (k:Int) l.length:=by
    unfold rH
    rw[show ((k:Int)==i||!Mf l (k:Int) i)=false by
     rw[Bool.or_eq_false_iff,beq_eq_false_iff_ne,Bool.not_eq_false'];exact AA]
    rfl
   refine AL (ι:={m:Nat//m≤l.length}) (fun m=>⟨[(0,.p I2 l),(1,.p T3 i),(5,.sr 60 T3 0 (Mh l i k).length),(6,.p (.int .i64) (k:Int)),(7,.p .bool (rG l i (k:Int) m.1)),(8,.p (.int .i64) (m.1:Int))],[(60,.arr 3 T3 (Mh l i k))]⟩) (fun m=>l.length-m.1) ⟨0,Nat.zero_le _⟩ (AC [(60,.nm 60)] rfl rfl ?_ ?_) (fun m=>?_)
   ·first|exact eN|refine eM ?_
   ·first|exact eN|refine eM ?_
    rfl
   ·obtain⟨m,hm⟩:=m
    have hm:m≤l.length:=hm
    have hds:=rJ l i (k:Int) m
    simp only
    repeat'(first|exact trivial|refine eS rfl ?_|refine AB ?_|refine rX [0,1,4,5,6,7,8,12,24,28,56] hc ?_ ?_|refine rC ?_ ?_<;>intro AA<;>try(cases AA;done))
    ·exact⟨fun h=>⟨by assumption,AA,hx2⟩,fun h=>⟨AA,hi,hx2⟩⟩
    ·exact eV
    ·have hm2:m<l.length:=by exact eV
     refine⟨⟨m+1,by omega⟩,by simp only;omega,AC [(60,.nm 60)] rfl rfl ?_ ?_⟩
     ·first|exact eN|refine eM ?_
     ·simp only[hds]
      unfold A3z
      first|exact eN|refine eM ?_
    ·simp only[AP];dsimp only[Ty.den]at *;omega
    ·exact eV
    ·have hm2:m=l.length:=by exact eV
     subst hm2
     rw[hb,if_pos AA]at hs
     refine⟨⟨k+1,by omega⟩,by simp only;omega,AC [(60,.nm 60)] rfl rfl ?_ ?_⟩
     ·simp only[hs]
      first|exact eN|refine eM ?_
     ·simp only[hs]
      first|exact eN|refine eM ?_
    ·exact eV
    ·have hm2:m=l.length:=by exact eV
     subst hm2
     rw[hb,if_neg (by rw[AA];simp),List.append_nil]at hs
     refine⟨⟨k+1,by omega⟩,by simp only;omega,AC [(60,.nm 60)] rfl rfl ?_ ?_⟩
     ·simp only[hs]
      first|exact eN|refine eM ?_
     ·simp only[hs]
      first|exact eN|refine eM ?_
  ·have hk2:k=l.length:=by exact eV
   subst hk2
   refine Gr [60] ?_
   exact AH hc [.tmp 4] rfl (.inl rfl) (by simp) (by unfold Zv;first|exact eR|refine Aw ?_)
end
/- Functions of grammarlabref05: declarations. -/
section
attribute [local go_sem] Jk OP D5
abbrev FV:=ByteArray×ByteArray
abbrev f0V:FV:=(ByteArray.empty,ByteArray.empty)
def tQ (all:List ByteArray) (l:List FV):Nat→List FV→Int
 | _,[]=>0
 | k,x :: r=>if Eh x.1 true=false then 1 else if ((l.take k).any fun y=>Ar y.1 x.1)=true then 4 else if Ad all x.2=false then 5 else tQ all l (k+1) r
def Xg (all:List ByteArray):List AK→Int
 | []=>0
 | x :: l=>if tQ all x.2.2 0 x.2.2≠0 then tQ all x.2.2 0 x.2.2 else Xg all l
def K5 (d:List AK):Int:=Xg (AX d) d
theorem wU (all:List ByteArray) (l:List FV) {k:Nat} (h:k<l.length):tQ all l k (l.drop k)=if Eh (l.getD k f0V).1 true=false then 1 else if ((l.take k).any fun y=>Ar y.1 (l.getD k f0V).1)=true then 4 else if Ad all (l.getD k f0V).2=false then 5 else tQ all l (k+1) (l.drop (k+1)):=by
 rw[List.drop_eq_getElem_cons h]
 have e:l.getD k f0V=l[k]:=by simp[List.getD_eq_getElem?_getD,h]
 rw[e]
 rfl
theorem rK (all:List ByteArray) (l:List AK) {k:Nat} (h:k<l.length):Xg all (l.drop k)=if tQ all (l.getD k d0).2.2 0 (l.getD k d0).2.2≠0 then tQ all (l.getD k d0).2.2 0 (l.getD k d0).2.2 else Xg all (l.drop (k+1)):=by
 rw[List.drop_eq_getElem_cons h]
 have e:l.getD k d0=l[k]:=by simp[List.getD_eq_getElem?_getD,h]
 rw[e]
 rfl
def Xh:Af:={ ins:=[Ec],pre:=fun(d,_)=>List.length d≤256,out:=fun(d,_)=>[.p ZO (K5 d)] }
theorem wV:Al Tryz.prog 173 Xh:=by
 refine AU Tryz.func173 (by kernel_rfl) rfl Tryz.ntmps173 (by decide) (by kernel_rfl) (AG [(134,Jk),(204,OP),(183,D5)]) (AF Vf (AF dK (AF GQ AJ))) ?_
 rintro w0 O0 ⟨d,u⟩ hc ⟨⟨hdl,hall⟩,-⟩ hd
 have hd:d.length≤256:=hd
 simp only[Xh,AN]
 repeat'(first|exact trivial|refine eS rfl ?_|refine AB ?_|refine rX [0,2,3,4,5,6,7,13,24,33,36,49,57] hc ?_ ?_|refine rC ?_ ?_<;>intro AA<;>try(cases AA;done))
 ·exact Nat.le_trans hd (by decide)
 ·have hdf:K5 d=Xg (AX d) d:=rfl
  rw[hdf]
  generalize AX d=all at *
  refine AL (ι:={i:Nat//i≤d.length∧Xg all (d.drop i)=Xg all d}) (fun i=>⟨[(0,.p Ec d),(3,.p Bo all),(4,.p (.int .i64) (i.1:Int))],[]⟩) (fun i=>d.length-i.1) ⟨0,Nat.zero_le _,rfl⟩ (AC [] rfl rfl ?_ ?_) (fun i=>?_)
  ·first|exact eN|refine eM ?_
  ·first|exact eN|refine eM ?_
  ·obtain⟨i,hi,hf⟩:=i
   simp only
   repeat'(first|exact trivial|refine eS rfl ?_|refine AB ?_|refine rX [0,2,3,4,5,6,7,13,24,33,36,49,57] hc ?_ ?_|refine rC ?_ ?_<;>intro AA<;>try(cases AA;done))
   ·exact AA
   ·have hi2:i<d.length:=by exact eV
    rw[rK all d hi2]at hf
    have hfl:(d.getD i d0).2.2.length≤AP:=(hall _ (AD d d0 hi2)).2.2.1
    have hfe:(List.getD d i (ByteArray.empty,[],[])).2.2=(d.getD i d0).2.2:=rfl
    rw[hfe]
    generalize (d.getD i d0).2.2=l at *
    simp only[AP]at hfl
    refine AL (ι:={k:Nat//k≤l.length∧tQ all l k (l.drop k)=tQ all l 0 l}) (fun k=>⟨[(0,.p Ec d),(3,.p Bo all),(4,.p (.int .i64) (i:Int)),(5,.p ZQ l),(6,.p (.int .i64) (k.1:Int))],[]⟩) (fun k=>l.length-k.1) ⟨0,Nat.zero_le _,rfl⟩ (AC [] rfl rfl ?_ ?_) (fun k=>?_)
    ·first|exact eN|refine eM ?_
    ·first|exact eN|refine eM ?_
    ·obtain⟨k,hk,hg⟩:=k
     have hstep:=fun h:k<l.length=>wU all l h
     simp only
     repeat'(first|exact trivial|refine eS rfl ?_|refine AB ?_|refine rX [0,2,3,4,5,6,7,13,24,33,36,49,57] hc ?_ ?_|refine rC ?_ ?_<;>intro AA<;>try(cases AA;done))
     ·exact AA
     ·have hk2:k<l.length:=by exact eV
      rw[hstep hk2,if_pos AA]at hg
      rw[←hg,if_pos (by decide)]at hf
      exact AH hc [.tmp 2] rfl (.inl rfl) (by simp) (by rw[←hf];first|exact eR|refine Aw ?_)
     ·have hk2:k<l.length:=by exact eV
      have hkI:(k:Int)<(l.length:Int):=Int.ofNat_lt.2 hk2
      rw[hstep hk2,if_neg (by rw[AA];simp)]at hg
      refine AL (ι:={m:Nat//m≤k∧((l.take m).any fun y=>Ar y.1 (l.getD k f0V).1)=false}) (fun m=>⟨[(0,.p Ec d),(3,.p Bo all),(4,.p (.int .i64) (i:Int)),(5,.p ZQ l),(6,.p (.int .i64) (k:Int)),(7,.p (.int .i64) (m.1:Int))],[]⟩) (fun m=>k-m.1) ⟨0,Nat.zero_le _,rfl⟩ (AC [] rfl rfl ?_ ?_) (fun m=>?_)
      ·first|exact eN|refine eM ?_
      ·first|exact eN|refine eM ?_
      ·obtain⟨m,hm,hany⟩:=m
       have hstep2:=fun h:m<l.length=>Ly l f0V (fun y=>Ar y.1 (l.getD k f0V).1) h
       simp only
       repeat'(first|exact trivial|refine eS rfl ?_|refine AB ?_|refine rX [0,2,3,4,5,6,7,13,24,33,36,49,57] hc ?_ ?_|refine rC ?_ ?_<;>intro AA<;>try(cases AA;done))
       ·have h1:(m:Int)<(k:Int):=AA
        exact⟨by exact eV,hkI⟩
       ·have hm2:m<k:=Int.ofNat_lt.1 (by assumption)
        have h2:=hstep2 (by omega)
        have h3:((l.take k).any fun y=>Ar y.1 (l.getD k f0V).1)=true:=by
         rw[List.any_eq_true]
         exact⟨l.getD m f0V,by
          rw[List.mem_take_iff_getElem]
          refine⟨m,by omega,?_⟩
          simp[List.getD_eq_getElem?_getD,show m<l.length by omega],AA⟩
        rw[if_pos h3]at hg
        rw[←hg,if_pos (by decide)]at hf
        exact AH hc [.tmp 2] rfl (.inl rfl) (by simp) (by rw[←hf];first|exact eR|refine Aw ?_)
       ·omega
       ·have hm2:m<k:=Int.ofNat_lt.1 (by assumption)
        have h2:=hstep2 (by omega)
        refine⟨⟨m+1,by omega,?_⟩,by simp only;omega,AC [] rfl rfl ?_ ?_⟩
        ·rw[h2,hany]
         exact AA
        ·first|exact eN|refine eM ?_
        ·first|exact eN|refine eM ?_
       ·exact hkI
       ·have hm2:m=k:=by omega
        subst hm2
        rw[if_neg (by rw[hany];simp),if_pos AA]at hg
        rw[←hg,if_pos (by decide)]at hf
        exact AH hc [.tmp 2] rfl (.inl rfl) (by simp) (by rw[←hf];first|exact eR|refine Aw ?_)
       ·have:=hdl
        simp only[AP]at this
        omega
       ·have hm2:m=k:=by omega
        subst hm2
        rw[if_neg (by rw[hany];simp),if_neg (by rw[AA];simp)]at hg
        refine⟨⟨m+1,by omega,hg⟩,by simp only;omega,AC [] rfl rfl ?_ ?_⟩
        ·first|exact eN|refine eM ?_
        ·first|exact eN|refine eM ?_
     ·omega
     ·have hk2:l.drop k=[]:=List.drop_eq_nil_of_le (Int.ofNat_le.1 AA)
      rw[hk2]at hg
      rw[←hg,if_neg (by simp[tQ])]at hf
      refine⟨⟨i+1,by omega,hf⟩,by simp only;omega,AC [] rfl rfl ?_ ?_⟩
      ·first|exact eN|refine eM ?_
      ·first|exact eN|refine eM ?_
   ·have hk2:d.drop i=[]:=List.drop_eq_nil_of_le (by exact eV)
    rw[hk2]at hf
    exact AH hc [.tmp 2] rfl (.inl rfl) (by simp) (by rw[←hf];first|exact eR|refine Aw ?_;rfl)
end
/- Functions of grammarlabref05: intro. -/
section
attribute [local go_sem] Pc M2 HV cs0
def Qy (s:ByteArray) (o:List ByteArray) (x:AK):List ByteArray:=if (F5 x s).2=true then D6 o x.1 else o
def IY (d:List AK) (s:ByteArray):List ByteArray:=d.foldl (Qy s) []
theorem d5 (s:ByteArray) (d:List AK) (k:Nat):(IY (d.take k) s).length≤k:=by
 have key:∀(l:List AK) (o:List ByteArray),(l.foldl (Qy s) o).length≤o.length+l.length:=by
  intro l
  induction l with
  | nil=>intro o;simp
  | cons x l ih =>
   intro o
   have h1:=ih (Qy s o x)
   have h2:(Qy s o x).length≤o.length+1:=by
    unfold Qy
    split
    ·exact Kw o x.1
    ·omega
   simp only[List.foldl_cons,List.length_cons]
   omega
 have h1:=key (d.take k) []
 have h2:=List.length_take_le k d
 unfold IY
 simp only[List.length_nil]at h1
 omega
def F8 (d:List AK) (s:ByteArray):ByteArray×Bool:=if (Bw d (IY d s)).length=1 then ((Bw d (IY d s)).getD 0 ByteArray.empty,true) else (ByteArray.empty,false)
def Ph:Af:={ ins:=[Ec,T9],pre:=fun(d,_,_)=>S3 d∧List.length d≤256,out:=fun(d,s,_)=>[.p T9 (F8 d s).1,.p .bool (F8 d s).2] }
theorem Zw:Al Tryz.prog 140 Ph:=by
 refine AU Tryz.func140 (by kernel_rfl) rfl Tryz.ntmps140 (by decide) (by kernel_rfl) (AG [(175,Pc),(174,M2),(188,HV)]) (AF Ze (AF PX (AF S7 AJ))) ?_
 rintro w0 O0 ⟨d,s,u⟩ hc-⟨hsup,hd⟩
 have hd:d.length≤256:=hd
 simp only[Ph,AN]
 repeat'(first|exact trivial|refine eS rfl ?_|refine AB ?_|refine rX [0,1,4,5,6,7,9,10,14,26,39] hc ?_ ?_|refine rC ?_ ?_<;>intro AA<;>try(cases AA;done))
 refine AL (ι:={i:Nat//i≤d.length}) (fun i=>⟨[(0,.p Ec d),(1,.p T9 s),(6,.p Bo (IY (d.take i.1) s)),(7,.p (.int .i64) (i.1:Int))],[]⟩) (fun i=>d.length-i.1) ⟨0,Nat.zero_le _⟩ (AC [] rfl rfl ?_ ?_) (fun i=>?_)
 ·first|exact eN|refine eM ?_
 ·first|exact eN|refine eM ?_
  rfl
 ·obtain⟨i,hi⟩:=i
  have hi:i≤d.length:=hi
  have hn:=d5 s d i
  have hs:=fun h:i<d.length=>EZ (Qy s) d d0 [] h
  have hfe:∀e,IY e s=e.foldl (Qy s) []:=fun _=>rfl
  rw[←hfe,←hfe]at hs
  unfold Qy at hs
  simp only
  repeat'(first|exact trivial|refine eS rfl ?_|refine AB ?_|refine rX [0,1,4,5,6,7,9,10,14,26,39] hc ?_ ?_|refine rC ?_ ?_<;>intro AA<;>try(cases AA;done))
  ·exact AA
  ·exact⟨by assumption,by omega⟩
  ·exact eV
  ·have hi2:i<d.length:=by exact eV
   have e:=hs hi2
   rw[if_pos AA]at e
   refine⟨⟨i+1,by omega⟩,by simp only;omega,AC [] rfl rfl ?_ ?_⟩
   ·first|exact eN|refine eM ?_
   ·simp only[e]
    first|exact eN|refine eM ?_
  ·exact eV
  ·have hi2:i<d.length:=by exact eV
   have e:=hs hi2
   rw[if_neg (by rw[AA];simp)]at e
   refine⟨⟨i+1,by omega⟩,by simp only;omega,AC [] rfl rfl ?_ ?_⟩
   ·first|exact eN|refine eM ?_
   ·simp only[e]
    first|exact eN|refine eM ?_
  ·exact⟨hsup,hd,by omega⟩
  ·have hi2:d.take i=d:=List.take_of_length_le (by exact eV)
   rw[hi2]at AA ⊢
   have h1:F8 d s=(ByteArray.empty,false):=by
    unfold F8
    rw[if_neg (by omega)]
   exact AH hc [.tmp 4,.tmp 5] rfl (.inl rfl) (by simp) (by rw[h1];first|exact eR|refine Aw ?_;first|rfl|exact⟨rfl,rfl⟩)
  ·have h2:((Bw d (IY (d.take i) s)).length:Int)=1:=by simpa using AA
   have h3:(0:Int)<((Bw d (IY (d.take i) s)).length:Int):=by rw[h2];decide
   exact h3
  ·have hi2:d.take i=d:=List.take_of_length_le (by exact eV)
   rw[hi2]at AA ⊢
   have h2:((Bw d (IY d s)).length:Int)=1:=by simpa using AA
   have h1:F8 d s=((Bw d (IY d s)).getD 0 ByteArray.empty,true):=by
    unfold F8
    rw[if_pos (by omega)]
   exact AH hc [.tmp 4,.tmp 5] rfl (.inl rfl) (by simp) (by rw[h1];first|exact eR|refine Aw ?_)
end
/- Functions of grammarlabref05: inherited. -/
section
attribute [local go_sem] Pc L2 Vj ZW
def Ul (l:List AW) (t:Int) (s:ByteArray) (o:List Int×Bool) (x:AK):List Int×Bool :=
 if (!(F5 x s).2||!Mf l (DJ l x.1) t)=true then o else (Fb o.1 (l.getD (DJ l (F5 x s).1).toNat c0).2,true)
def TL (d:List AK) (l:List AW) (t:Int) (s:ByteArray):List Int×Bool:=d.foldl (Ul l t s) ((l.getD 0 c0).2,false)
def A1V (d:List AK) (l:List AW):Prop:=(∀x∈d,0≤DJ l x.1)∧∀x∈d,∀y∈x.2.2,0≤DJ l y.2
theorem Zx (s:ByteArray):∀(l:List (ByteArray×ByteArray)),(Zd s l).2=true→∃y∈l,y.2=(Zd s l).1
 | [],h=>by cases h
 | x :: l,h=>by
  simp only[Zd]at h ⊢
  split at h
  ·rename_i h1
   rw[if_pos h1]
   exact⟨x,by simp,rfl⟩
  ·rename_i h1
   rw[if_neg h1]
   obtain⟨y,hy,e⟩:=Zx s l h
   exact⟨y,by simp[hy],e⟩
theorem A1V.value {d:List AK} {l:List AW} (h:A1V d l) {x:AK} (hx:x∈d) {s:ByteArray} (hv:(F5 x s).2=true):0≤DJ l (F5 x s).1:=by
 obtain⟨y,hy,e⟩:=Zx s x.2.2 hv
 have:=h.2 x hx y hy
 rw[e]at this
 exact this
theorem wW {l:List AW} (t:Int) (s:ByteArray) (x:AK) {o:List Int×Bool} (h:o.1.length≤64):(Ul l t s o x).1.length≤64:=by
 unfold Ul
 split
 ·exact h
 ·exact Nat.le_trans (Zf _ _) h
theorem TM {l:List AW} (t:Int) (s:ByteArray):∀(d:List AK) {o:List Int×Bool},o.1.length≤64→(d.foldl (Ul l t s) o).1.length≤64
 | [],_,h=>h
 | x :: d,_,h=>by rw[List.foldl_cons];exact TM t s d (wW t s x h)
theorem Zy (s:ByteArray):∀(l:List AW) (k:Nat),Pb s k l<((k+l.length:Nat):Int)
 | [],k=>by simp only[Pb];omega
 | x :: l,k=>by
  simp only[Pb]
  split
  ·simp only[List.length_cons];omega
  ·have:=Zy s l (k+1)
   simp only[List.length_cons]
   omega
theorem Qz (l:List AW) (s:ByteArray):DJ l s<(l.length:Int):=by
 have:=Zy s l 0
 rw[Nat.zero_add]at this
 exact this
def rO:Af:={ ins:=[Ec,I2,T3,T9],pre:=fun(d,l,t,_,_)=>A1V d l∧((0:Int)≤t∧t<(List.length l:Int))∧List.length l≤256∧(∀x∈(l:List AW),x.2.length≤64),out:=fun(d,l,t,s,_)=>[.p BA (TL d l t s).1,.p .bool (TL d l t s).2] }
theorem wX:Al Tryz.prog 131 rO:=by
 refine AU Tryz.func131 (by kernel_rfl) rfl Tryz.ntmps131 (by decide) (by kernel_rfl) (AG [(175,Pc),(141,L2),(139,Vj),(143,ZW)]) (AF Ze (AF Vl (AF nU (AF dM AJ)))) ?_
 rintro w0 O0 ⟨d,l,t,s,u⟩ hc ⟨⟨hdl,hall⟩,-⟩ ⟨hnum,ht,hl,hx⟩
 have hl:l.length≤256:=hl
 have hx2:∀x∈(l:List AW),x.2.length≤100000:=fun x h=>Nat.le_trans (hx x h) (by decide)
 have hlp:0<List.length l:=Int.ofNat_lt.1 (Int.lt_of_le_of_lt ht.1 ht.2)
 simp only[AP]at hdl
 simp only[rO,AN]
 repeat'(first|exact trivial|refine eS rfl ?_|refine AB ?_|refine rX [0,1,2,3,8,9,10,11,12,13,14,22,48] hc ?_ ?_|refine rC ?_ ?_<;>intro AA<;>try(cases AA;done))
 ·exact Int.ofNat_lt.2 hlp
 ·have hif:TL d l t s=d.foldl (Ul l t s) ((l.getD 0 c0).2,false):=rfl
  have hc0:(l.getD 0 c0).2.length≤64:=hx _ (AD l c0 hlp)
  have hc1:(List.getD l 0 (ByteArray.empty,[])).2=(l.getD 0 c0).2:=rfl
  rw[hc1]
  generalize (l.getD 0 c0).2=b0 at *
  refine AL (ι:={i:Nat//i≤d.length}) (fun i=>⟨[(0,.p Ec d),(1,.p I2 l),(2,.p T3 t),(3,.p T9 s),(10,.p .bool ((d.take i.1).foldl (Ul l t s) (b0,false)).2),(11,.p BA ((d.take i.1).foldl (Ul l t s) (b0,false)).1),(12,.p (.int .i64) (i.1:Int))],[]⟩) (fun i=>d.length-i.1) ⟨0,Nat.zero_le _⟩ (AC [] rfl rfl ?_ ?_) (fun i=>?_)
  ·first|exact eN|refine eM ?_
  ·first|exact eN|refine eM ?_
   exact⟨rfl,rfl⟩
  ·obtain⟨i,hi⟩:=i
   have hi:i≤d.length:=hi
   have hlen:=TM (l:=l) t s (d.take i) (o:=(b0,false)) hc0
   have hs:=fun h:i<d.length=>EZ (Ul l t s) d d0 (b0,false) h
   have hnx:=fun h:i<d.length=>hnum.1 _ (AD d d0 h)
   have hnv:=fun(h:i<d.length) (g:(F5 (d.getD i d0) s).2=true)=>hnum.value (AD d d0 h) g
   have hia:∀o x,Ul l t s o x=(if (!(F5 x s).2||!Mf l (DJ l x.1) t)=true then o else (Fb o.1 (l.getD (DJ l (F5 x s).1).toNat c0).2,true)):=fun _ _=>rfl
   generalize ho:(d.take i).foldl (Ul l t s) (b0,false)=o at *
   simp only
   repeat'(first|exact trivial|refine eS rfl ?_|refine AB ?_|refine rX [0,1,2,3,8,9,10,11,12,13,14,22,48] hc ?_ ?_|refine rC ?_ ?_<;>intro AA<;>try(cases AA;done))
   ·exact AA
   ·have hi2:i<d.length:=Int.ofNat_lt.1 AA
    exact⟨fun _=>AA,fun _=>⟨⟨hnx hi2,Qz _ _⟩,ht,hx2⟩⟩
   ·exact eV
   ·have hi2:i<d.length:=Int.ofNat_lt.1 (by assumption)
    have e:=hs hi2
    rw[hia,if_pos (by rw[Bool.or_eq_true,Bool.not_eq_true',Bool.not_eq_true'];exact AA)]at e
    refine⟨⟨i+1,by omega⟩,by simp only;omega,AC [] rfl rfl ?_ ?_⟩
    ·first|exact eN|refine eM ?_
    ·first|exact eN|refine eM ?_
     rw[e]
     exact⟨rfl,rfl⟩
   ·have hi2:i<d.length:=Int.ofNat_lt.1 (by assumption)
    exact⟨⟨hnv hi2 AA.1,Qz _ _⟩,Nat.le_trans hlen (by decide)⟩
   ·exact eV
   ·have hi2:i<d.length:=Int.ofNat_lt.1 (by assumption)
    have e:=hs hi2
    have hneg:¬(!(F5 (d.getD i d0) s).2||!Mf l (DJ l (d.getD i d0).1) t)=true:=by
     rw[Bool.or_eq_true,Bool.not_eq_true',Bool.not_eq_true']
     rintro (h|h)
     ·rw[show (F5 (d.getD i d0) s).2=true from AA.1]at h;cases h
     ·rw[show Mf l (DJ l (d.getD i d0).1) t=true from AA.2]at h;cases h
    rw[hia,if_neg hneg]at e
    refine⟨⟨i+1,by omega⟩,by simp only;omega,AC [] rfl rfl ?_ ?_⟩
    ·first|exact eN|refine eM ?_
    ·first|exact eN|refine eM ?_
     rw[e]
     exact⟨rfl,rfl⟩
   ·have hi2:d.take i=d:=List.take_of_length_le (Int.ofNat_le.1 AA)
    rw[hi2]at ho
    rw[ho]at hif
    exact AH hc [.tmp 8,.tmp 9] rfl (.inl rfl) (by simp) (by rw[hif];first|exact eR|refine Aw ?_)
end
/- Plain: what passes grammarlabref04.Codes and the checks of grammarlabref05. -/
section
theorem Q0:∀ {l:List AK},Ku l=0→∀x∈l,x.2.1.length≤256∧x.2.2.length≤256
 | [],_,x,hx=>by cases hx
 | y :: l,h,x,hx=>by
  simp only[Ku]at h
  split at h
  ·cases h
  ·rename_i h1
   rcases List.mem_cons.1 hx with rfl|hx
   ·exact⟨by omega,by omega⟩
   ·exact Q0 h x hx
theorem Jo {d:List AK} (h:BK d=0):∀x∈d,x.2.1.length≤256∧x.2.2.length≤256:=by
 have h1:Ei d=0:=by
  unfold BK at h
  split at h
  ·rename_i h1;exact absurd h h1
  ·rename_i h1;exact Classical.byContradiction h1
 unfold Ei at h1
 split at h1
 ·cases h1
 ·exact Q0 h1
theorem NG {d:List AK} (h:BK d=0):∀x∈A0 d,x.2.length≤64:=by
 intro x hx
 obtain⟨-,h2,-⟩:=A7 h
 obtain⟨b,hb,rfl⟩:=Dh.1 hx
 exact Od (NF h2) b hb
theorem Zz {all:List ByteArray} {l:List FV}:∀ {r:List FV} {k:Nat},tQ all l k r=0→∀y∈r,Ad all y.2=true
 | [],_,_,y,hy=>by cases hy
 | x :: r,k,h,y,hy=>by
  simp only[tQ]at h
  split at h
  ·cases h
  ·split at h
   ·cases h
   ·split at h
    ·cases h
    ·rename_i h3
     rcases List.mem_cons.1 hy with rfl|hy
     ·simpa using h3
     ·exact Zz h y hy
theorem Vt {all:List ByteArray}:∀ {l:List AK},Xg all l=0→∀x∈l,∀y∈x.2.2,Ad all y.2=true
 | [],_,x,hx=>by cases hx
 | z :: l,h,x,hx=>by
  simp only[Xg]at h
  split at h
  ·rename_i h1;exact absurd h h1
  ·rename_i h1
   rcases List.mem_cons.1 hx with rfl|hx
   ·exact Zz (Classical.byContradiction h1)
   ·exact Vt h x hx
theorem n4 {d:List AK} (h:BK d=0) (h2:K5 d=0):A1V d (A0 d) :=
 ⟨fun x hx=>Qx h hx,fun x hx y hy=>Qw h (Vt h2 x hx y hy)⟩
end
/- Plain: the codes of a hierarchy are closed under intersections. -/
section
theorem TN (l:List (List Int)) (i k:Nat):l <+: Gd l i k:=by
 unfold Gd
 split
 ·exact List.prefix_append _ _
 ·exact List.prefix_refl _
theorem TP (i:Nat):∀(n k:Nat) (l:List (List Int)),l <+: Ge i n k l
 | 0,_,l=>List.prefix_refl l
 | n+1,k,l=>by
  unfold Ge
  split
  ·exact(TN l i k).trans (TP i n (k+1) _)
  ·exact List.prefix_refl l
theorem TQ:∀(n i:Nat) (l:List (List Int)),l <+: IW n i l
 | 0,_,l=>List.prefix_refl l
 | n+1,i,l=>by
  unfold IW
  split
  ·exact(TP i i 0 l).trans (TQ n (i+1) _)
  ·exact List.prefix_refl l
theorem Og {l m:List (List Int)} (h:l <+: m) {k:Nat} (hk:k<l.length):m.getD k []=l.getD k []:=by
 obtain⟨t,rfl⟩:=h
 simp only[List.getD_eq_getElem?_getD]
 rw[List.getElem?_append_left hk]
def KB (l:List (List Int)) (q p:Nat):Prop:=Fb (l.getD q []) (l.getD p [])=[]∨Fb (l.getD q []) (l.getD p [])∈l
theorem KB.pre {l m:List (List Int)} (h:l <+: m) {q p:Nat} (hq:q<l.length) (hp:p<l.length) (hm:KB l q p):KB m q p:=by
 unfold KB at hm ⊢
 rw[Og h hq,Og h hp]
 rcases hm with hm|hm
 ·exact .inl hm
 ·exact .inr (h.subset hm)
theorem A1W {l:List (List Int)} {b:List Int} (h:dQ l b=true):b∈l:=by
 obtain⟨x,hx,e⟩:=List.any_eq_true.1 h
 have:x=b:=by simpa[HO] using e
 rw[←this]
 exact hx
theorem d6 {l:List (List Int)} {i k:Nat} (hi:i<l.length) (hk:k<l.length):KB (Gd l i k) i k:=by
 have hp:=TN l i k
 unfold KB
 rw[Og hp hi,Og hp hk]
 unfold Gd
 split
 ·right;simp
 ·rename_i hc
  rw[Bool.and_eq_true,decide_eq_true_eq,Bool.not_eq_true']at hc
  by_cases h0:0<((Fb (l.getD i []) (l.getD k [])).length:Int)
  ·right
   cases hh:dQ l (Fb (l.getD i []) (l.getD k [])) with
   | true=>exact A1W hh
   | false=>exact absurd ⟨h0,hh⟩ hc
  ·left
   exact List.eq_nil_of_length_eq_zero (by omega)
theorem TR {i:Nat}:∀ {n k:Nat} {l:List (List Int)},n+k=i→i<l.length→(Ge i n k l).length≤256→(∀p,p<k→KB l i p)→∀p,p<i→KB (Ge i n k l) i p
 | 0,k,l,hn,hi,hl,h=>fun p hp=>h p (by omega)
 | n+1,k,l,hn,hi,hl,h=>by
  unfold Ge at hl ⊢
  split at hl
  ·rename_i hc
   rw[if_pos hc]
   have hp:=TN l i k
   refine TR (by omega) (Nat.lt_of_lt_of_le hi hp.length_le) hl fun p hpk=>?_
   by_cases e:p=k
   ·subst e
    exact d6 hi (by omega)
   ·exact(h p (by omega)).pre hp hi (by omega)
  ·rename_i hc
   exact absurd (by omega:l.length≤256) hc
theorem TS:∀ {n i:Nat} {l:List (List Int)},257≤n+i→(IW n i l).length≤256→i≤l.length→(∀q p,p<q→q<i→KB l q p)→∀q p,p<q→q<(IW n i l).length→KB (IW n i l) q p
 | 0,i,l,hn,hl,hil,h=>fun q p hpq hq=>by
  have hl':l.length≤256:=hl
  omega
 | n+1,i,l,hn,hl,hil,h=>by
  unfold IW at hl ⊢
  split at hl
  ·rename_i hc
   rw[if_pos hc]
   have hp:=TP i i 0 l
   have hpl:=hp.length_le
   have hgl:=(TQ n (i+1) (Ge i i 0 l)).length_le
   refine TS (by omega) hl (by omega) fun q p hpq hq=>?_
   by_cases e:q=i
   ·subst e
    exact TR (by omega) hc.1 (by omega) (fun p hp=>by omega) p hpq
   ·exact(h q p hpq (by omega)).pre hp (by omega) (by omega)
  ·rename_i hc
   rw[if_neg hc]
   intro q p hpq hq
   exact h q p hpq (by
    refine Classical.byContradiction fun hh=>hc ⟨by omega,hl⟩)
theorem Xi {c:List (List Int)} (hl:(A1 c).length≤256):∀q p,p<q→q<(A1 c).length→KB (A1 c) q p :=
 TS (by omega) hl (Nat.zero_le _) (fun q p _ h=>by omega)
/-! Bits -/
theorem wY (a b:List Int) (k:Nat):(Fb a b).getD k 0=if k<a.length then CS .and .u64 (a.getD k 0) (b.getD k 0) else 0:=by
 unfold Fb
 rw[OZ]
 split
 ·rename_i h;exact L3 .and a b h
 ·rename_i h
  rw[List.getD_eq_getElem?_getD,List.getElem?_eq_none (by rw[EL];omega)]
  rfl
theorem GR {b:List Int} {k:Nat} (h:¬k<b.length):b.getD k 0=0:=by
 rw[List.getD_eq_getElem?_getD,List.getElem?_eq_none (by omega)];rfl
theorem Ro {a b:List Int} (ha:H8 a) (hb:H8 b) (i:Nat):BR (Fb a b) i=(BR a i&&BR b i):=by
 unfold BR
 rw[wY]
 split
 ·rw[HW (A8 ha _) (A8 hb _),Int.toNat_natCast,Nat.testBit_and]
 ·rename_i h
  rw[GR h]
  simp
theorem Xj {a b:List Int} (ha:H8 a) (hb:H8 b):H8 (Fb a b):=by
 refine M9 fun x hx=>?_
 unfold F4 at hx
 obtain⟨i,-,rfl⟩:=List.mem_map.1 hx
 rw[Gz,HW (A8 ha _) (A8 hb _)]
 have h1:=A8 ha i
 have h2:(a.getD i 0).toNat &&& (b.getD i 0).toNat≤(a.getD i 0).toNat:=Nat.and_le_left
 have h3:=h1.1
 have h4:=h1.2
 exact⟨Int.natCast_nonneg _,by omega⟩
theorem Pi (b:List Int):∀n,Cc b n=0∨b.getD (Cc b n-1) 0≠0
 | 0=>.inl rfl
 | n+1=>by
  unfold Cc
  split
  ·exact Pi b n
  ·rename_i h
   right
   simpa using h
theorem A1X {n:Nat} (h0:n≠0) (h1:n<18446744073709551616):∃r,r<64∧n.testBit r=true:=by
 refine Classical.byContradiction fun hc=>h0 ?_
 refine Nat.eq_of_testBit_eq fun r=>?_
 rw[Nat.zero_testBit]
 by_cases hr:r<64
 ·cases hb:n.testBit r with
  | false=>rfl
  | true=>exact absurd ⟨r,hr,hb⟩ hc
 ·have e:(18446744073709551616:Nat)=2 ^ 64:=by decide
  rw[e]at h1
  exact Nat.testBit_lt_two_pow (Nat.lt_of_lt_of_le h1 (Nat.pow_le_pow_right (by decide) (by omega)))
theorem wZ {b:List Int} (hb:H8 b) {k:Nat} (h:b.getD k 0≠0):∃i,BR b i=true:=by
 have hu:=A8 hb k
 have h1:=hu.1
 have h2:=hu.2
 obtain⟨r,hr,ht⟩:=A1X (n:=(b.getD k 0).toNat) (by omega) (by omega)
 refine⟨64*k+r,?_⟩
 unfold BR
 rw[show (64*k+r) / 64=k by omega,show (64*k+r) % 64=r by omega]
 exact ht
theorem d7 {b:List Int} (hb:H8 b) (h:BH b≠[]):∃i,BR b i=true:=by
 rcases Pi b b.length with h1|h1
 ·exact absurd (by unfold BH;rw[h1];rfl) h
 ·exact wZ hb h1
theorem Vu {a b:List Int} (ha:H8 a) (hb:H8 b) (h:∀i,BR a i=true→BR b i=true) (k:Nat):CS .andNot .u64 (a.getD k 0) (b.getD k 0)=0:=by
 rw[Pe]
 have:(BitVec.ofInt 64 (a.getD k 0) &&& ~~~BitVec.ofInt 64 (b.getD k 0))=0#64:=by
  apply BitVec.eq_of_getLsbD_eq
  intro r hr
  rw[BitVec.getLsbD_and,BitVec.getLsbD_not,←BitVec.testBit_toNat,←BitVec.testBit_toNat,FE (A8 ha k),FE (A8 hb k)]
  have hk:=h (64*k+r)
  unfold BR at hk
  rw[show (64*k+r) / 64=k by omega,show (64*k+r) % 64=r by omega]at hk
  cases hx:(a.getD k 0).toNat.testBit r with
  | false=>simp
  | true=>rw[hk hx];simp
 rw[this]
 rfl
theorem d8 {a b:List Int} (ha:H8 a) (hb:H8 b):Ew a b=true↔∀i,BR a i=true→BR b i=true:=by
 constructor
 ·exact fun h i hi=>K3 ha hb h hi
 ·intro h
  unfold Ew PY BH
  have h1:Cc (F4 .andNot a b a.length) (F4 .andNot a b a.length).length=0:=by
   rw[EL]
   exact Pf fun k hk=>by rw[L3 _ _ _ hk];exact Vu ha hb h k
  rw[h1]
  rfl
end
/- Functions of grammarlabref05: Check. -/
section
attribute [local go_sem] IX K0 Xh Ph rO
def NH (d:List AK) (l:List AW) (t:Nat) (s:ByteArray):Bool:=(TL d l (t:Int) s).2&&((TL d l (t:Int) s).1.length:Int)==0
def n5 (d:List AK) (l:List AW) (f:List ByteArray) (t:Nat):Bool:=f.any (NH d l t)
def K6 (d:List AK) (l:List AW) (f:List ByteArray) (n:Nat):Bool:=(List.range n).any (n5 d l f)
theorem Z0 (d:List AK) (l:List AW) (f:List ByteArray) (n:Nat):K6 d l f (n+1)=(K6 d l f n||n5 d l f n):=by
 unfold K6
 rw[List.range_succ,List.any_append]
 simp
def BN (d:List AK):Int :=
 if (Bt d).2≠0 then (Bt d).2 else if 64<(Dg d).length then 7 else if K5 d≠0 then K5 d else
 if ((Dg d).all fun s=>(F8 d s).2)=false then 10 else if K6 d (Bt d).1 (Dg d) (Bt d).1.length=true then 11 else 0
def L7:Af:={ ins:=[Ec],pre:=fun _=>True,out:=fun(d,_)=>[.p ZO (BN d)] }
theorem Vv:Al Tryz.prog 129 L7:=by
 refine AU Tryz.func129 (by kernel_rfl) rfl Tryz.ntmps129 (by decide) (by kernel_rfl) (AG [(97,IX),(130,K0),(173,Xh),(140,Ph),(131,rO)]) (AF Oe (AF TA (AF wV (AF Zw (AF wX AJ))))) ?_
 rintro w0 O0 ⟨d,u⟩ hc - -
 simp only[L7,AN]
 repeat'(first|exact trivial|refine eS rfl ?_|refine AB ?_|refine rX [0,2,3,4,5,6,7,9,10,11,12,13,20,26,30,35,48,52,58,77] hc ?_ ?_|refine rC ?_ ?_<;>intro AA<;>try(cases AA;done))
 ·have h1:BN d=(Bt d).2:=by unfold BN;rw[if_pos AA]
  exact AH hc [.tmp 2] rfl (.inl rfl) (by simp) (by rw[h1];first|exact eR|refine Aw ?_)
 ·have hz:(Bt d).2=0:=by simpa using AA
  obtain⟨h3,-,-⟩:=Bc hz
  obtain⟨-,hd,-⟩:=A7 h3
  exact⟨hd,fun x hx=>(Jo h3 x hx).2⟩
 ·have hz:(Bt d).2=0:=by simpa using ‹((Bt d).2 != 0)=false›
  have h1:BN d=7:=by
   unfold BN
   rw[if_neg (by rw[hz];simp),if_pos (by omega)]
  exact AH hc [.tmp 2] rfl (.inl rfl) (by simp) (by rw[h1];first|exact eR|refine Aw ?_)
 ·have hz:(Bt d).2=0:=by simpa using ‹((Bt d).2 != 0)=false›
  obtain⟨h3,-,-⟩:=Bc hz
  exact(A7 h3).2.1
 ·have hz:(Bt d).2=0:=by simpa using ‹((Bt d).2 != 0)=false›
  have h1:BN d=K5 d:=by
   unfold BN
   rw[if_neg (by rw[hz];simp),if_neg (by omega),if_pos AA]
  exact AH hc [.tmp 2] rfl (.inl rfl) (by simp) (by rw[h1];first|exact eR|refine Aw ?_)
 ·have hz:(Bt d).2=0:=by simpa using ‹((Bt d).2 != 0)=false›
  have hdz:K5 d=0:=by simpa using AA
  obtain⟨h3,hlen,hl⟩:=Bc hz
  obtain⟨hsup,hd,-⟩:=A7 h3
  have hnr:=n4 h3 hdz
  have hwid:=NG h3
  have hpos:=A1S h3
  have hll:(A0 d).length≤256:=by rw[HZ];exact hlen
  have hc5:BN d=if ((Dg d).all fun s=>(F8 d s).2)=false then 10 else if K6 d (Bt d).1 (Dg d) (Bt d).1.length=true then 11 else 0:=by
   unfold BN
   rw[if_neg (by rw[hz];simp),if_neg (by omega),if_neg (by rw[hdz];simp)]
  rw[hl]at hc5 ⊢
  generalize A0 d=l at *
  generalize Dg d=f at *
  refine AL (ι:={i:Nat//i≤f.length∧((f.take i).all fun s=>(F8 d s).2)=true}) (fun i=>⟨[(0,.p Ec d),(3,.p I2 l),(5,.p Bo f),(7,.p (.int .i64) (i.1:Int))],[]⟩) (fun i=>f.length-i.1) ⟨0,Nat.zero_le _,rfl⟩ (AC [] rfl rfl ?_ ?_) (fun i=>?_)
  ·first|exact eN|refine eM ?_
  ·first|exact eN|refine eM ?_
  ·obtain⟨i,hi,hall⟩:=i
   have hstep:=fun h:i<f.length=>I3 f ByteArray.empty (fun s=>(F8 d s).2) h
   simp only
   repeat'(first|exact trivial|refine eS rfl ?_|refine AB ?_|refine rX [0,2,3,4,5,6,7,9,10,11,12,13,20,26,30,35,48,52,58,77] hc ?_ ?_|refine rC ?_ ?_<;>intro AA<;>try(cases AA;done))
   ·exact⟨AA,hsup,hd⟩
   ·have hi2:i<f.length:=Int.ofNat_lt.1 (by assumption)
    have h2:(f.all fun s=>(F8 d s).2)=false:=by
     rw[Bool.eq_false_iff]
     intro h
     have:=List.all_eq_true.1 h _ (AD f ByteArray.empty hi2)
     rw[show (F8 d (f.getD i ByteArray.empty)).2=false from AA]at this
     cases this
    rw[if_pos h2]at hc5
    exact AH hc [.tmp 2] rfl (.inl rfl) (by simp) (by rw[hc5];first|exact eR|refine Aw ?_)
   ·omega
   ·have hi2:i<f.length:=Int.ofNat_lt.1 (by assumption)
    refine⟨⟨i+1,hi2,?_⟩,by simp only;omega,AC [] rfl rfl ?_ ?_⟩
    ·rw[hstep hi2,hall]
     exact AA
    ·first|exact eN|refine eM ?_
    ·first|exact eN|refine eM ?_
   ·have hi2:f.take i=f:=List.take_of_length_le (Int.ofNat_le.1 AA)
    rw[hi2]at hall
    rw[if_neg (by rw[hall];simp)]at hc5
    refine AL (ι:={t:Nat//t≤l.length∧K6 d l f t=false}) (fun t=>⟨[(0,.p Ec d),(3,.p I2 l),(5,.p Bo f),(10,.p (.int .i64) (t.1:Int))],[]⟩) (fun t=>l.length-t.1) ⟨0,Nat.zero_le _,rfl⟩ (AC [] rfl rfl ?_ ?_) (fun t=>?_)
    ·first|exact eN|refine eM ?_
    ·first|exact eN|refine eM ?_
    ·obtain⟨t,ht,hvb⟩:=t
     have hvs:=Z0 d l f t
     simp only
     repeat'(first|exact trivial|refine eS rfl ?_|refine AB ?_|refine rX [0,2,3,4,5,6,7,9,10,11,12,13,20,26,30,35,48,52,58,77] hc ?_ ?_|refine rC ?_ ?_<;>intro AA<;>try(cases AA;done))
     ·have htl:t<l.length:=Int.ofNat_lt.1 AA
      refine AL (ι:={k:Nat//k≤f.length∧(f.take k).any (NH d l t)=false}) (fun k=>⟨[(0,.p Ec d),(3,.p I2 l),(5,.p Bo f),(10,.p (.int .i64) (t:Int)),(11,.p (.int .i64) (k.1:Int))],[]⟩) (fun k=>f.length-k.1) ⟨0,Nat.zero_le _,rfl⟩ (AC [] rfl rfl ?_ ?_) (fun k=>?_)
      ·first|exact eN|refine eM ?_
      ·first|exact eN|refine eM ?_
      ·obtain⟨k,hk,hany⟩:=k
       have hst:=fun h:k<f.length=>Ly f ByteArray.empty (NH d l t) h
       simp only
       repeat'(first|exact trivial|refine eS rfl ?_|refine AB ?_|refine rX [0,2,3,4,5,6,7,9,10,11,12,13,20,26,30,35,48,52,58,77] hc ?_ ?_|refine rC ?_ ?_<;>intro AA<;>try(cases AA;done))
       ·exact⟨AA,hnr,by assumption,hll,hwid⟩
       ·have hk2:k<f.length:=Int.ofNat_lt.1 (by assumption)
        have hb:NH d l t (f.getD k ByteArray.empty)=true:=by
         unfold NH
         rw[Bool.and_eq_true,beq_iff_eq]
         exact AA
        have hB:K6 d l f l.length=true:=by
         unfold K6
         rw[List.any_eq_true]
         exact⟨t,List.mem_range.2 htl,GP f ByteArray.empty _ hk2 hb⟩
        rw[if_pos hB]at hc5
        exact AH hc [.tmp 2] rfl (.inl rfl) (by simp) (by rw[hc5];first|exact eR|refine Aw ?_)
       ·omega
       ·have hk2:k<f.length:=Int.ofNat_lt.1 (by assumption)
        have hb:NH d l t (f.getD k ByteArray.empty)=false:=by
         rw[Bool.eq_false_iff]
         unfold NH
         intro h
         rw[Bool.and_eq_true,beq_iff_eq]at h
         exact AA h.1 h.2
        refine⟨⟨k+1,hk2,?_⟩,by simp only;omega,AC [] rfl rfl ?_ ?_⟩
        ·rw[hst hk2,hany,hb]
         rfl
        ·first|exact eN|refine eM ?_
        ·first|exact eN|refine eM ?_
       ·omega
       ·have hk2:f.take k=f:=List.take_of_length_le (Int.ofNat_le.1 AA)
        rw[hk2]at hany
        refine⟨⟨t+1,htl,?_⟩,by simp only;omega,AC [] rfl rfl ?_ ?_⟩
        ·rw[hvs,hvb]
         exact hany
        ·first|exact eN|refine eM ?_
        ·first|exact eN|refine eM ?_
     ·have ht2:t=l.length:=by exact eV
      subst ht2
      rw[if_neg (by rw[hvb];simp)]at hc5
      exact AH hc [.tmp 2] rfl (.inl rfl) (by simp) (by rw[hc5];first|exact eR|refine Aw ?_)
end
end Go.Proofs.YtebfihindnhccaaGreat.Fw
