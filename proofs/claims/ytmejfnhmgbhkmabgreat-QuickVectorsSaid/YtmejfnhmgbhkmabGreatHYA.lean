/- Contracts of the program's and the reference's functions, and the plain laws of what they compute: C1 C2 C9 C10 C11 C12 C13 C3 C4 C5 C6 C7 C8 C14 C15 C16 C17 C18 C19 C20 C21 C22 C23 N1 N2 C24 C25 N3 C26 C27 C28 C29 N4 N5 C30. -/
/- Functions of grammarlabref01: digit, upper, lower, part, named, Name, Feature. -/
import Derived.Test.YtmejfnhmgbhkmabGreatHZJ
set_option linter.unusedVariables false
set_option linter.unusedSimpArgs false
namespace Go.Proofs.YtmejfnhmgbhkmabGreat.Fw
open Go
attribute [local irreducible] Ev
attribute [local go_sem] YO AM List.toList_toArray Bk evG evK UG EF I9 F6 FG Hk QD Lu Ci Cp K8 CC Cd frz aV F1 Co Az E7 BL AV.frz AV.frzs AV.drp AV.drps AV.names AV.namess aq F3 Jg I1 Qx H5 BM BV IV Dr Hd Ds Hf He Hg Rm NG GL I2 E9 Dl Rn Ox qG IW Hh J5 Eo Dt Qy Cs Du EX Oy Hi Oz J6 H8 I3 Dv DD GU DF Gp Ct EY Cu Dw FB CC CP P0 Ow MO Fy H7 H6 J3 NJ QB Lt KA J8 I6 QC J9 I7 WU NL NK AV.trn AV.trns ER Cg Obj.trn Ik Yi DE Dy Dm Dx CG EZ Aq lk GX F2 Gl wL aU UH aX QA mF mG wP AV.cells Bz IT NF I5 NI B7 Lr Ty.cell1 Hc ET DC FU MN Em I0 J1 Ou F0 Fa Lo Qv Rk Jz H4 WR X0 P6 Ls Cc IU RV.flat Ty.flat Ty.size St.add upd UF BR Value.oneCell' Jv Ty.dflt Hb Nf Gy Np List.take_succ_cons List.take_zero List.length_cons YX YY Nn Ih KP Gj Ii rI FH LH LI LJ LK PB PC LL Hn R4 Option.map_some Option.map_none Option.bind_some Option.getD_some Option.getD_none Option.isNone_none Option.isNone_some Bool.and_true Bool.true_and Bool.and_false Bool.false_and Bool.not_true Bool.not_false if_true if_false List.length_cons List.length_nil and_true true_and and_self List.all_cons List.all_nil List.append_nil List.nil_append List.cons_append List.getElem?_cons_zero List.getElem?_cons_succ List.getElem?_nil List.map_cons List.map_nil List.set_cons_zero List.set_cons_succ List.isEmpty_nil List.isEmpty_cons decide_true decide_false beq_self_eq_true bne_self_eq_false Nat.zero_add Nat.add_zero Nat.sub_zero Int.toNat_natCast Int.toNat_zero Int.toNat_one List.take_length List.length_append List.length_singleton true_or or_true or_self false_or or_false Ty.agg.injEq Ty.slice.injEq Ty.prod.injEq Ty.int.injEq Option.some.injEq beq_iff_eq Jw evMG evMQ rO G0 KM Bo Ig GM Nh Id Gz Ho JF Jl MZ L0 Ma RA KN Ni Nj Ie AW Ah Op.operands Call.operands List.filterMap_cons List.filterMap_nil List.append_eq Bool.cond_false_right Bool.cond_true_left cond_true cond_false implies_true decide_eq_true_eq beq_true beq_false Bool.or_true Bool.or_false Bool.true_or Bool.false_or Option.isSome_some E8 K9 Ea Gm WT NH FA Fc Fb Hj Gn I4 J7 UI aW UY inB I8 FC Fz IX BU YZ List.drop_zero DK G7 Wr B1 JK Bi AV.fgt AV.fgts Obj.fgt Ak Ag AW Cl Ha BA F7 List.any_cons List.any_nil bV Yc Ws Yd KR PH qs List.flatMap_cons List.flatMap_nil List.cons_append tn Wv Il List.take_succ_cons List.drop_succ_cons Wz HA Bg fU LQ Bv B9 Ab FF JE BX Ec DI Gw Hm Fg Gx
attribute [local go_sem] ty1 ty2 ty3 ty4 ty5 ty9 xY xZ x4 x5 x6 x7 x8 x9 yA yB yC yD yE yF yG yH yI yJ yK yL yM yN yO yP yQ yR yS yT yU yV yW yX yY yZ y3 y4 y5 y6 y7 y8 y9 zA zB zC zD zE zF zG zH zI zJ zK zL zM zN zO zP zQ zR zS zT zU zV zW zX zY zZ z0 z1 z2 z3 z4 z5 z6 z7 z8 fY fZ f6 f7 gB gC gD gE gF gG gH gI gJ gK gL gM gN gP gQ gR gS gT gU gV gW gX gY gZ hC hD hH hZ iA iB iC iD iE iG iH iI iJ iK iL iM iO iP iQ iR iT iU iV iW iX iY iZ i4 i5 i6 i7 i8 i9 jA jB jC jD jE jF jG jH jI jJ jK jL jM jN jO jP jQ jR jS jT jU jV jW jX jY jZ j3 j4 j5 j6 j7 j8 j9 kA kB kC kD kE kF kG kH kI kJ kK kL kM kN kO kP kQ
set_option maxRecDepth 100000
set_option maxHeartbeats 4000000
section
def IJ (a b c:Int):Bool:=decide (a≤c)&&decide (c≤b)
def SX:Ac:={ ins:=[.int .u8],pre:=fun _=>True,out:=fun(c,_)=>[.p .bool (IJ 48 57 c)] }
attribute [local go_sem] SX
def XC:Ac:={ ins:=[.int .u8],pre:=fun _=>True,out:=fun(c,_)=>[.p .bool (IJ 65 90 c)] }
attribute [local go_sem] XC
def XD:Ac:={ ins:=[.int .u8],pre:=fun _=>True,out:=fun(c,_)=>[.p .bool (IJ 97 122 c)] }
attribute [local go_sem] XD
theorem Yw:Ai Tryz.prog 160 SX:=by
 refine AP Tryz.func160 (by kernel_rfl) rfl Tryz.ntmps160 (by decide) (by kernel_rfl) (AH []) AI ?_
 rintro w0 O0 ⟨c,u⟩ hc - -
 simp only[SX,AM]
 repeat'(first|exact trivial|refine eS rfl ?_|refine AB ?_|refine rX [0,2] hc ?_ ?_|refine rC ?_ ?_<;>intro AA<;>try(cases AA;done))
 exact AG hc [.tmp 2] rfl (.inl rfl) (by simp) (by unfold IJ;first|exact eR|refine Ap ?_)
theorem sZ:Ai Tryz.prog 162 XC:=by
 refine AP Tryz.func162 (by kernel_rfl) rfl Tryz.ntmps162 (by decide) (by kernel_rfl) (AH []) AI ?_
 rintro w0 O0 ⟨c,u⟩ hc - -
 simp only[XC,AM]
 repeat'(first|exact trivial|refine eS rfl ?_|refine AB ?_|refine rX [0,2] hc ?_ ?_|refine rC ?_ ?_<;>intro AA<;>try(cases AA;done))
 exact AG hc [.tmp 2] rfl (.inl rfl) (by simp) (by unfold IJ;first|exact eR|refine Ap ?_)
theorem s3:Ai Tryz.prog 163 XD:=by
 refine AP Tryz.func163 (by kernel_rfl) rfl Tryz.ntmps163 (by decide) (by kernel_rfl) (AH []) AI ?_
 rintro w0 O0 ⟨c,u⟩ hc - -
 simp only[XD,AM]
 repeat'(first|exact trivial|refine eS rfl ?_|refine AB ?_|refine rX [0,2] hc ?_ ?_|refine rC ?_ ?_<;>intro AA<;>try(cases AA;done))
 exact AG hc [.tmp 2] rfl (.inl rfl) (by simp) (by unfold IJ;first|exact eR|refine Ap ?_)
def SY (c:Int) (big:Bool):Bool:=IJ 48 57 c||c==45||big&&IJ 65 90 c||!big&&IJ 97 122 c
def kT:Ac:={ ins:=[.int .u8,.bool],pre:=fun _=>True,out:=fun(c,b,_)=>[.p .bool (SY c b)] }
attribute [local go_sem] kT
theorem A00:Ai Tryz.prog 161 kT:=by
 refine AP Tryz.func161 (by kernel_rfl) rfl Tryz.ntmps161 (by decide) (by kernel_rfl) (AH [(160,SX),(162,XC),(163,XD)]) (AE Yw (AE sZ (AE s3 AI))) ?_
 rintro w0 O0 ⟨c,b,u⟩ hc - -
 simp only[kT,AM]
 repeat'(first|exact trivial|refine eS rfl ?_|refine AB ?_|refine rX [0,1,4] hc ?_ ?_|refine rC ?_ ?_<;>intro AA<;>try(cases AA;done))
 exact AG hc [.tmp 4] rfl (.inl rfl) (by simp) (by unfold SY;first|exact eR|refine Ap ?_)
abbrev chr (s:ByteArray) (i:Nat):Int:=((s.data.getD i 0).toNat:Int)
def PO (s:ByteArray):Bool:=decide ((s.size:Int)<1)||decide (32<(s.size:Int))||IJ 48 57 (chr s 0)||chr s 0==45
def EU (s:ByteArray) (big:Bool):Bool:=!PO s&&(List.range s.size).all fun i=>SY (chr s i) big
def SZ:Ac:={ ins:=[T9,.bool],pre:=fun _=>True,out:=fun(s,b,_)=>[.p .bool (EU s b)] }
attribute [local go_sem] SZ
theorem Yx:Ai Tryz.prog 159 SZ:=by
 refine AP Tryz.func159 (by kernel_rfl) rfl Tryz.ntmps159 (by decide) (by kernel_rfl) (AH [(160,SX),(161,kT)]) (AE Yw (AE A00 AI)) ?_
 rintro w0 O0 ⟨s,b,u⟩ hc - -
 simp only[SZ,AM]
 repeat'(first|exact trivial|refine eS rfl ?_|refine AB ?_|refine rX [0,1,4,5,23,27,35] hc ?_ ?_|refine rC ?_ ?_<;>intro AA<;>try(cases AA;done))
 ·constructor
  ·intro h
   simp only[Bool.not_eq_true',Bool.or_eq_false_iff,decide_eq_false_iff_not]at h
   have:1≤(s.size:Int):=by omega
   exact this
  ·intro h
   simp only[Bool.not_eq_true',Bool.or_eq_false_iff,decide_eq_false_iff_not]at h
   have:1≤(s.size:Int):=by omega
   exact this
 ·have h1:PO s=true:=by
   unfold PO chr
   simp only[Bool.or_eq_true,decide_eq_true_eq,beq_iff_eq]
   exact AA
  have h2:EU s b=false:=by unfold EU;rw[h1];rfl
  exact AG hc [.tmp 4] rfl (.inl rfl) (by simp) (by rw[h2];first|exact eR|refine Ap ?_)
 ·have h1:PO s=false:=by
   unfold PO chr
   simp only[Bool.or_eq_false_iff,decide_eq_false_iff_not,beq_eq_false_iff_ne]
   exact⟨⟨⟨by omega,by omega⟩,AA.1.2⟩,AA.2⟩
  have hsz:s.size≤32:=by omega
  refine AK (ι:={k:Nat//k≤s.size∧((List.range k).all fun i=>SY (chr s i) b)=true}) (fun k=>⟨[(0,.p T9 s),(1,.p .bool b),(5,.p (.int .i64) (k.1:Int))],[]⟩) (fun k=>s.size-k.1) ⟨0,by simp⟩ (AC [] rfl rfl ?_ ?_) (fun k=>?_)
  ·first|exact eN|refine eM ?_
  ·first|exact eN|refine eM ?_
  ·obtain⟨k,hk,hall⟩:=k
   repeat'(first|exact trivial|refine eS rfl ?_|refine AB ?_|refine rX [0,1,4,5,23,27,35] hc ?_ ?_|refine rC ?_ ?_<;>intro AA<;>try(cases AA;done))
   ·exact AA
   ·have hk2:k<s.size:=by omega
    have h2:EU s b=false:=by
     unfold EU
     rw[Bool.and_eq_false_iff]
     refine .inr (Bool.eq_false_iff.2 fun h=>?_)
     have:=List.all_eq_true.1 h k (List.mem_range.2 hk2)
     rw[show SY (chr s k) b=false from AA]at this
     cases this
    exact AG hc [.tmp 4] rfl (.inl rfl) (by simp) (by rw[h2];first|exact eR|refine Ap ?_)
   ·omega
   ·have hk2:k<s.size:=by omega
    refine⟨⟨k+1,by omega,?_⟩,by simp only;omega,AC [] rfl rfl ?_ ?_⟩
    ·rw[List.range_succ,List.all_append,hall]
     rw[Bool.true_and,List.all_cons,List.all_nil,Bool.and_true]
     exact AA
    ·first|exact eN|refine eM ?_
    ·first|exact eN|refine eM ?_
   ·have hk2:k=s.size:=by omega
    subst hk2
    have h2:EU s b=true:=by unfold EU;rw[h1,hall];rfl
    exact AG hc [.tmp 4] rfl (.inl rfl) (by simp) (by rw[h2];first|exact eR|refine Ap ?_)
def kU:Ac:={ ins:=[T9],pre:=fun _=>True,out:=fun(s,_)=>[.p .bool (EU s false)] }
def Nw:Ac:={ ins:=[T9],pre:=fun _=>True,out:=fun(s,_)=>[.p .bool (EU s true)] }
theorem A01:Ai Tryz.prog 150 kU:=by
 refine AP Tryz.func150 (by kernel_rfl) rfl Tryz.ntmps150 (by decide) (by kernel_rfl) (AH [(159,SZ)]) (AE Yx AI) ?_
 rintro w0 O0 ⟨s,u⟩ hc - -
 simp only[kU,AM]
 repeat'(first|exact trivial|refine eS rfl ?_|refine AB ?_|refine rX [0,2] hc ?_ ?_|refine rC ?_ ?_<;>intro AA<;>try(cases AA;done))
 exact AG hc [.tmp 2] rfl (.inl rfl) (by simp) (by first|exact eR|refine Ap ?_)
theorem b7:Ai Tryz.prog 149 Nw:=by
 refine AP Tryz.func149 (by kernel_rfl) rfl Tryz.ntmps149 (by decide) (by kernel_rfl) (AH [(159,SZ)]) (AE Yx AI) ?_
 rintro w0 O0 ⟨s,u⟩ hc - -
 simp only[Nw,AM]
 repeat'(first|exact trivial|refine eS rfl ?_|refine AB ?_|refine rX [0,2] hc ?_ ?_|refine rC ?_ ?_<;>intro AA<;>try(cases AA;done))
 exact AG hc [.tmp 2] rfl (.inl rfl) (by simp) (by first|exact eR|refine Ap ?_)
end
/- Functions of grammarlabref03: Among, find, Put. -/
section
theorem LR {α:Type} (l:List α) (d:α) (p:α→Bool) {k:Nat} (h:k<l.length):(l.take (k+1)).any p=((l.take k).any p||p (l.getD k d)):=by
 rw[Ae l d h,List.any_append];simp
theorem GA {α:Type} (l:List α) (d:α) (p:α→Bool) {k:Nat} (h:k<l.length) (hp:p (l.getD k d)=true):l.any p=true :=
 List.any_eq_true.2 ⟨_,AD l d h,hp⟩
def Aa (l:List ByteArray) (s:ByteArray):Bool:=l.any fun x=>Ar x s
def Dj:Ac:={ ins:=[Bq,T9],pre:=fun _=>True,out:=fun(l,n,_)=>[.p .bool (Aa l n)],lend:=true }
attribute [local go_sem] Dj
theorem GB:Ai Tryz.prog 131 Dj:=by
 refine AP Tryz.func131 (by kernel_rfl) rfl Tryz.ntmps131 (by decide) (by kernel_rfl) (AH []) AI ?_
 rintro w0 O0 ⟨l,n,u⟩ hc ⟨⟨hl,-⟩,-⟩ -
 simp only[AO]at hl
 simp only[Dj,AM]
 repeat'(first|exact trivial|refine eS rfl ?_|refine AB ?_|refine rX [0,1,4,5,9,17] hc ?_ ?_|refine rC ?_ ?_<;>intro AA<;>try(cases AA;done))
 refine AK (ι:={k:Nat//k≤l.length∧(l.take k).any (fun x=>Ar x n)=false}) (fun k=>⟨[(0,.p Bq l),(1,.p T9 n),(5,.p (.int .i64) (k.1:Int))],[]⟩) (fun k=>l.length-k.1) ⟨0,by simp⟩ (AC [] rfl rfl ?_ ?_) (fun k=>?_)
 ·first|exact eN|refine eM ?_
 ·first|exact eN|refine eM ?_
 ·obtain⟨k,hk,hany⟩:=k
  repeat'(first|exact trivial|refine eS rfl ?_|refine AB ?_|refine rX [0,1,4,5,9,17] hc ?_ ?_|refine rC ?_ ?_<;>intro AA<;>try(cases AA;done))
  ·exact eV
  ·have hkl:k<l.length:=by exact eV
   have h1:Aa l n=true:=GA l ByteArray.empty _ hkl AA
   exact AG hc [.tmp 4] rfl (.inl rfl) (by simp) (by rw[h1];first|exact eR|refine Ap ?_)
  ·exact eV
  ·have hkl:k<l.length:=by exact eV
   refine⟨⟨k+1,by exact eV,?_⟩,by simp only;exact eV,AC [] rfl rfl ?_ ?_⟩
   ·rw[LR l ByteArray.empty _ hkl,hany];exact AA
   ·first|exact eN|refine eM ?_
   ·first|exact eN|refine eM ?_
  ·have hk:l.take k=l:=List.take_of_length_le (by exact eV)
   rw[hk]at hany
   have h1:Aa l n=false:=hany
   exact AG hc [.tmp 4] rfl (.inl rfl) (by simp) (by rw[h1];first|exact eR|refine Ap ?_)
def qD (l:List ByteArray) (s:ByteArray):Nat:=(l.takeWhile fun x=>GT x s).length
theorem s4 {α:Type} (p:α→Bool) (d:α):∀(l:List α) (k:Nat),k≤(l.takeWhile p).length→((k<l.length∧p (l.getD k d)=true)↔k+1≤(l.takeWhile p).length)
 | [],k,h=>by simp
 | x :: l,k,h=>by
  by_cases hx:p x=true
  ·rw[List.takeWhile_cons,if_pos hx]at h ⊢
   cases k with
   | zero=>simp[hx]
   | succ k =>
    have:=s4 p d l k (by simpa using h)
    simpa using this
  ·rw[List.takeWhile_cons,if_neg hx]at h ⊢
   have hk:k=0:=by simpa using h
   subst hk
   simp[hx]
theorem A16 {α:Type} (p:α→Bool) (l:List α):(l.takeWhile p).length≤l.length:=(List.takeWhile_sublist p).length_le
def Dk (l:List ByteArray) (s:ByteArray):List ByteArray :=
 if (decide (qD l s<l.length)&&Ar (l.getD (qD l s) ByteArray.empty) s)=true then l else l.take (qD l s)++[s]++l.drop (qD l s)
def Mh:Ac:={ ins:=[Bq,T9],pre:=fun(l,_,_)=>List.length l≤100000,out:=fun(l,n,_)=>[.p Bq (Dk l n)] }
attribute [local go_sem] Mh
theorem PP:Ai Tryz.prog 122 Mh:=by
 refine AP Tryz.func122 (by kernel_rfl) rfl Tryz.ntmps122 (by decide) (by kernel_rfl) (AH []) AI ?_
 rintro w0 O0 ⟨l,n,u⟩ hc-hl
 have hl:l.length≤100000:=hl
 simp only[Mh,AM]
 repeat'(first|exact trivial|refine eS rfl ?_|refine AB ?_|refine rX [0,1,4,5,6,18,32] hc ?_ ?_|refine rC ?_ ?_<;>intro AA<;>try(cases AA;done))
 refine AK (ι:={k:Nat//k≤qD l n}) (fun k=>⟨[(0,.p Bq l),(1,.p T9 n),(5,.raw (.slice none 0 0)),(6,.p (.int .i64) (k.1:Int))],[]⟩) (fun k=>l.length-k.1) ⟨0,by simp⟩ (AC [] rfl rfl ?_ ?_) (fun k=>?_)
 ·first|exact eN|refine eM ?_
 ·first|exact eN|refine eM ?_
 ·obtain⟨k,hk⟩:=k
  have hle:=A16 (fun x=>GT x n) l
  have htw:=s4 (fun x=>GT x n) ByteArray.empty l k hk
  simp only
  repeat'(first|exact trivial|refine eS rfl ?_|refine AB ?_|refine rX [0,1,4,5,6,18,32] hc ?_ ?_|refine rC ?_ ?_<;>intro AA<;>try(cases AA;done))
  ·exact fun h=>h
  ·have h1:k<l.length∧GT (l.getD k ByteArray.empty) n=true:=⟨by exact eV,AA.2⟩
   exact eV
  ·have h1:k<l.length∧GT (l.getD k ByteArray.empty) n=true:=⟨by exact eV,AA.2⟩
   refine⟨⟨k+1,htw.1 h1⟩,by simp only;omega,AC [] rfl rfl ?_ ?_⟩
   ·first|exact eN|refine eM ?_
   ·first|exact eN|refine eM ?_
  ·exact fun h=>h
  ·rename_i hend
   have hk2:k=qD l n:=by
    refine Nat.le_antisymm hk (Nat.le_of_not_lt fun h=>?_)
    have:=htw.2 h
    rw[hend (Int.ofNat_lt.2 this.1)]at this
    cases this.2
   have h2:Dk l n=l:=by
    unfold Dk
    rw[←hk2,if_pos]
    rw[Bool.and_eq_true,decide_eq_true_eq]
    exact⟨Int.ofNat_lt.1 AA.1,AA.2⟩
   exact AG hc [.tmp 4] rfl (.inl rfl) (by simp) (by rw[h2];first|exact eR|refine Ap ?_)
  ·have h3:=List.length_take_le k l
   have h4:k≤l.length:=Nat.le_trans hk hle
   simp only[AO]
   exact⟨Int.ofNat_le.2 h4,by dsimp only[Ty.den]at *;omega⟩
  ·have h3:=List.length_take_le k l
   have h4:k≤l.length:=Nat.le_trans hk hle
   simp only[AO]
   dsimp only[Ty.den]at *
   omega
  ·have h3:=List.length_take_le k l
   have h4:k≤l.length:=Nat.le_trans hk hle
   have h5:(l.drop k).length≤l.length:=by rw[List.length_drop];omega
   simp only[AO]
   exact⟨Int.ofNat_le.2 h4,by dsimp only[Ty.den]at *;omega⟩
  ·rename_i hend
   have hk2:k=qD l n:=by
    refine Nat.le_antisymm hk (Nat.le_of_not_lt fun h=>?_)
    have:=htw.2 h
    rw[hend (Int.ofNat_lt.2 this.1)]at this
    cases this.2
   have h2:Dk l n=l.take k++[n]++l.drop k:=by
    unfold Dk
    rw[←hk2,if_neg]
    rw[Bool.and_eq_true,decide_eq_true_eq]
    intro h
    rw[AA (Int.ofNat_lt.2 h.1)]at h
    cases h.2
   have h4:k≤l.length:=Nat.le_trans hk hle
   have hlen:(l.take k).length+1+(l.drop k).length=(l.take k++[n]++l.drop k).length:=by simp only[List.length_append,List.length_singleton]
   rw[hlen,←h2]
   refine Gb [38] ?_
   exact AG hc [.tmp 4] rfl (.inl rfl) (by simp) (by first|exact eR|refine Ap ?_)
end
/- Functions of grammarlabref02: word, Normal. -/
section
def FX (b:List Int) (i:Int):Int:=if i<b.length then b.getD i.toNat 0 else 0
def Sa:Ac:={ ins:=[A6,T3],pre:=fun(_,i,_)=>(0:Int)≤i,out:=fun(b,i,_)=>[.p Nv (FX b i)],lend:=true }
attribute [local go_sem] Sa
theorem kV:Ai Tryz.prog 140 Sa:=by
 refine AP Tryz.func140 (by kernel_rfl) rfl Tryz.ntmps140 (by decide) (by kernel_rfl) (AH []) AI ?_
 rintro w0 O0 ⟨b,i,u⟩ hc-hi
 simp only[Sa,AM]
 repeat'(first|exact trivial|refine eS rfl ?_|refine AB ?_|refine rX [0,1,4,8] hc ?_ ?_|refine rC ?_ ?_<;>intro AA<;>try(cases AA;done))
 ·exact⟨hi,AA⟩
 ·have h1:FX b i=b.getD i.toNat 0:=by unfold FX;rw[if_pos AA]
  exact AG hc [.tmp 4] rfl (.inl rfl) (by simp) (by rw[h1];first|exact eR|refine Ap ?_)
 ·have h1:FX b i=0:=by unfold FX;rw[if_neg (Int.not_lt.2 AA)]
  exact AG hc [.tmp 4] rfl (.inl rfl) (by simp) (by rw[h1];first|exact eR|refine Ap ?_)
def CQ (b:List Int):Nat→Nat
 | 0=>0
 | n+1=>if b.getD n 0=0 then CQ b n else n+1
def BC (b:List Int):List Int:=b.take (CQ b b.length)
theorem Sb (b:List Int):∀n,CQ b n≤n
 | 0=>Nat.le_refl _
 | n+1=>by
  unfold CQ
  split
  ·exact Nat.le_succ_of_le (Sb b n)
  ·exact Nat.le_refl _
def FI:Ac:={ ins:=[A6],pre:=fun(b,_)=>List.length b≤100000,out:=fun(b,_)=>[.p A6 (BC b)] }
attribute [local go_sem] FI
theorem LS:Ai Tryz.prog 124 FI:=by
 refine AP Tryz.func124 (by kernel_rfl) rfl Tryz.ntmps124 (by decide) (by kernel_rfl) (AH []) AI ?_
 rintro w0 O0 ⟨b,u⟩ hc-hb
 have hb:b.length≤100000:=hb
 simp only[FI,AM]
 repeat'(first|exact trivial|refine eS rfl ?_|refine AB ?_|refine rX [0,2,3,15] hc ?_ ?_|refine rC ?_ ?_<;>intro AA<;>try(cases AA;done))
 refine AK (ι:={n:Nat//n≤b.length∧CQ b n=CQ b b.length}) (fun n=>⟨[(0,.p A6 b),(3,.p (.int .i64) (n.1:Int))],[]⟩) (fun n=>n.1) ⟨b.length,Nat.le_refl _,rfl⟩ (AC [] rfl rfl ?_ ?_) (fun n=>?_)
 ·first|exact eN|refine eM ?_
 ·first|exact eN|refine eM ?_
 ·obtain⟨n,hn,hg⟩:=n
  simp only
  repeat'(first|exact trivial|refine eS rfl ?_|refine AB ?_|refine rX [0,2,3,15] hc ?_ ?_|refine rC ?_ ?_<;>intro AA<;>try(cases AA;done))
  ·constructor
   ·exact eV
   ·intro h
    refine⟨?_,?_⟩<;>exact eV
  ·exact eV
  ·obtain⟨h1,h2⟩:=AA
   obtain⟨m,rfl⟩:∃m,n=m+1:=⟨n-1,by omega⟩
   have e:(((m+1:Nat):Int)-1)=(m:Int):=by omega
   rw[e]at h2
   have h2:b.getD m 0=0:=h2
   have hg2:CQ b m=CQ b b.length:=by
    rw[←hg]
    show _=if b.getD m 0=0 then CQ b m else m+1
    rw[if_pos h2]
   refine⟨⟨m,by omega,hg2⟩,by simp,AC [] rfl rfl ?_ ?_⟩
   ·first|exact eN|refine eM ?_
   ·simp only[e]
    first|exact eN|refine eM ?_
  ·have h3:=List.length_take_le n b
   simp only[AO]
   exact⟨Int.ofNat_le.2 hn,by dsimp only[Ty.den]at *;omega⟩
  ·have hend:CQ b n=n:=by
    cases n with
    | zero=>rfl
    | succ m =>
     have e:(((m+1:Nat):Int)-1)=(m:Int):=by omega
     rw[e]at AA
     have h2:=AA (by omega)
     have h2:¬b.getD m 0=0:=h2
     show (if b.getD m 0=0 then CQ b m else m+1)=m+1
     rw[if_neg h2]
   have h1:BC b=b.take n:=by unfold BC;rw[←hg,hend]
   rw[←h1]
   refine Gb [18] ?_
   exact AG hc [.tmp 2] rfl (.inl rfl) (by simp) (by first|exact eR|refine Ap ?_)
end
/- Functions of grammarlabref02: Has. -/
section
attribute [local go_sem] Sa FI
def s5 (w:Int) (r:Int):Bool:=CJ .and .u64 (Rl .u64 w r) 1==1
def Sc (b:List Int) (i:Int):Bool:=if (decide (i<0)||decide ((b.length:Int)≤i.tdiv 64))=true then false else s5 (b.getD (i.tdiv 64).toNat 0) (i.tmod 64)
def b8:Ac:={ ins:=[A6,T3],pre:=fun _=>True,out:=fun(b,i,_)=>[.p .bool (Sc b i)],lend:=true }
theorem A1F {w:Int} (h0:0≤w) (r:Int):0≤Rl .u64 w r∧Rl .u64 w r≤w:=by
 unfold Rl
 have hp:(0:Int)<2 ^ (min r.toNat IntKind.u64.bits):=Int.pow_pos (by decide)
 rw[Int.fdiv_eq_ediv_of_nonneg _ (Int.le_of_lt hp)]
 exact⟨Int.ediv_nonneg h0 (Int.le_of_lt hp),Int.ediv_le_self _ h0⟩
theorem s6:Ai Tryz.prog 135 b8:=by
 refine AP Tryz.func135 (by kernel_rfl) rfl Tryz.ntmps135 (by decide) (by kernel_rfl) (AH []) AI ?_
 rintro w0 O0 ⟨b,i,u⟩ hc ⟨⟨hbl,hbe⟩,hik,-⟩ -
 have hik:Jf .i64 i:=hik
 rw[LL]at hik
 have htd:0≤i→Int.tdiv i 64=i / 64∧Int.tmod i 64=i % 64:=fun h=>⟨Int.tdiv_eq_ediv_of_nonneg h,Int.tmod_eq_emod_of_nonneg h⟩
 simp only[b8,AM]
 repeat'(first|exact trivial|refine eS rfl ?_|refine AB ?_|refine rX [0,1,4,13] hc ?_ ?_|refine rC ?_ ?_<;>intro AA<;>try(cases AA;done))
 ·intro h
  have h0:0≤i:=by simpa using h
  obtain⟨e1,e2⟩:=htd h0
  rw[e1]
  refine⟨by decide,?_,?_⟩<;>exact eV
 ·have h1:Sc b i=false:=by
   unfold Sc
   rw[if_pos]
   rw[Bool.or_eq_true,decide_eq_true_eq,decide_eq_true_eq]
   exact AA
  exact AG hc [.tmp 4] rfl (.inl rfl) (by simp) (by rw[h1];first|exact eR|refine Ap ?_)
 ·obtain⟨h0,hlt⟩:=AA
  obtain⟨e1,e2⟩:=htd h0
  rw[e1]at hlt
  have hw:Jf .u64 (b.getD (i / 64).toNat 0):=hbe _ (AD b 0 (by exact eV))
  rw[Hn]at hw
  have hs:=A1F hw.1 (i % 64)
  rw[e1,e2]
  refine⟨⟨by decide,by exact eV,by exact eV⟩,⟨by exact eV,by exact eV⟩,⟨by decide,by exact eV,by exact eV⟩,⟨by exact eV,by exact eV⟩,by exact eV,hs.1,Int.le_trans hs.2 hw.2⟩
 ·have h1:Sc b i=s5 (b.getD (i.tdiv 64).toNat 0) (i.tmod 64):=by
   unfold Sc
   rw[if_neg]
   rw[Bool.or_eq_true,decide_eq_true_eq,decide_eq_true_eq]
   rintro (h|h)<;>omega
  exact AG hc [.tmp 4] rfl (.inl rfl) (by simp) (by rw[h1];unfold s5;first|exact eR|refine Ap ?_)
end
/- Functions of grammarlabref02: And, Minus. -/
section
attribute [local go_sem] Sa FI
def Fi (op:BinOp) (a b:List Int) (n:Nat):List Int:=(List.range n).map fun i=>CJ op .u64 (a.getD i 0) (FX b (i:Int))
theorem D5 (op:BinOp) (a b:List Int) (n:Nat):(Fi op a b n).length=n:=by simp[Fi]
theorem VE (op:BinOp) (a b:List Int) (n:Nat):Fi op a b (n+1)=Fi op a b n++[CJ op .u64 (a.getD n 0) (FX b (n:Int))]:=by simp[Fi,List.range_succ]
def FT (a b:List Int):List Int:=BC (Fi .and a b a.length)
def Yy:Ac:={ ins:=[A6,A6],pre:=fun(a,_,_)=>List.length a≤100000,out:=fun(a,b,_)=>[.p A6 (FT a b)] }
theorem b9:Ai Tryz.prog 100 Yy:=by
 refine AP Tryz.func100 (by kernel_rfl) rfl Tryz.ntmps100 (by decide) (by kernel_rfl) (AH [(140,Sa),(124,FI)]) (AE kV (AE LS AI)) ?_
 rintro w0 O0 ⟨a,b,u⟩ hc-ha
 have ha:a.length≤100000:=ha
 simp only[Yy,AM]
 repeat'(first|exact trivial|refine eS rfl ?_|refine AB ?_|refine rX [0,1,4,5,6,10] hc ?_ ?_|refine rC ?_ ?_<;>intro AA<;>try(cases AA;done))
 refine AK (ι:={n:Nat//n≤a.length}) (fun n=>⟨[(0,.p A6 a),(1,.p A6 b),(5,.sr 23 Nv 0 n.1),(6,.p (.int .i64) (n.1:Int))],[(23,.arr 165 Nv (Fi .and a b n.1))]⟩) (fun n=>a.length-n.1) ⟨0,Nat.zero_le _⟩ (AC [(23,.nil)] rfl rfl ?_ ?_) (fun n=>?_)
 ·first|exact eN|refine eM ?_
  rfl
 ·first|exact eN|refine eM ?_
 ·obtain⟨n,hn⟩:=n
  have hz:=D5 .and a b n
  have hs:=VE .and a b n
  simp only
  repeat'(first|exact trivial|refine eS rfl ?_|refine AB ?_|refine rX [0,1,4,5,6,10] hc ?_ ?_|refine rC ?_ ?_<;>intro AA<;>try(cases AA;done))
  ·refine⟨AA,?_⟩
   simp only[AO]
   dsimp only[Ty.den]at *
   omega
  ·exact eV
  ·have hn2:n<a.length:=by exact eV
   refine⟨⟨n+1,by omega⟩,by simp only;omega,AC [(23,.nm 23)] rfl rfl ?_ ?_⟩
   ·simp only[hs]
    first|exact eN|refine eM ?_
    rw[List.take_of_length_le (by rw[hz];exact Nat.le_refl _)]
   ·first|exact eN|refine eM ?_
  ·have hn2:n=a.length:=by exact eV
   subst hn2
   refine Gb [23] ?_
   have ht:(Fi .and a b a.length).take a.length=Fi .and a b a.length:=List.take_of_length_le (by rw[D5];exact Nat.le_refl _)
   repeat'(first|exact trivial|refine eS rfl ?_|refine AB ?_|refine rX [0,1,4,5,6,10] hc ?_ ?_|refine rC ?_ ?_<;>intro AA<;>try(cases AA;done))
   ·rw[ht,D5];exact ha
   ·rw[ht]
    exact AG hc [.tmp 4] rfl (.inl rfl) (by simp) (by unfold FT;first|exact eR|refine Ap ?_)
def PQ (a b:List Int):List Int:=BC (Fi .andNot a b a.length)
def XE:Ac:={ ins:=[A6,A6],pre:=fun(a,_,_)=>List.length a≤100000,out:=fun(a,b,_)=>[.p A6 (PQ a b)] }
attribute [local go_sem] XE
theorem s7:Ai Tryz.prog 156 XE:=by
 refine AP Tryz.func156 (by kernel_rfl) rfl Tryz.ntmps156 (by decide) (by kernel_rfl) (AH [(140,Sa),(124,FI)]) (AE kV (AE LS AI)) ?_
 rintro w0 O0 ⟨a,b,u⟩ hc-ha
 have ha:a.length≤100000:=ha
 simp only[XE,AM]
 repeat'(first|exact trivial|refine eS rfl ?_|refine AB ?_|refine rX [0,1,4,5,6,10] hc ?_ ?_|refine rC ?_ ?_<;>intro AA<;>try(cases AA;done))
 refine AK (ι:={n:Nat//n≤a.length}) (fun n=>⟨[(0,.p A6 a),(1,.p A6 b),(5,.sr 23 Nv 0 n.1),(6,.p (.int .i64) (n.1:Int))],[(23,.arr 165 Nv (Fi .andNot a b n.1))]⟩) (fun n=>a.length-n.1) ⟨0,Nat.zero_le _⟩ (AC [(23,.nil)] rfl rfl ?_ ?_) (fun n=>?_)
 ·first|exact eN|refine eM ?_
  rfl
 ·first|exact eN|refine eM ?_
 ·obtain⟨n,hn⟩:=n
  have hz:=D5 .andNot a b n
  have hs:=VE .andNot a b n
  simp only
  repeat'(first|exact trivial|refine eS rfl ?_|refine AB ?_|refine rX [0,1,4,5,6,10] hc ?_ ?_|refine rC ?_ ?_<;>intro AA<;>try(cases AA;done))
  ·refine⟨AA,?_⟩
   simp only[AO]
   dsimp only[Ty.den]at *
   omega
  ·exact eV
  ·have hn2:n<a.length:=by exact eV
   refine⟨⟨n+1,by omega⟩,by simp only;omega,AC [(23,.nm 23)] rfl rfl ?_ ?_⟩
   ·simp only[hs]
    first|exact eN|refine eM ?_
    rw[List.take_of_length_le (by rw[hz];exact Nat.le_refl _)]
   ·first|exact eN|refine eM ?_
  ·have hn2:n=a.length:=by exact eV
   subst hn2
   refine Gb [23] ?_
   have ht:(Fi .andNot a b a.length).take a.length=Fi .andNot a b a.length:=List.take_of_length_le (by rw[D5];exact Nat.le_refl _)
   repeat'(first|exact trivial|refine eS rfl ?_|refine AB ?_|refine rX [0,1,4,5,6,10] hc ?_ ?_|refine rC ?_ ?_<;>intro AA<;>try(cases AA;done))
   ·rw[ht,D5];exact ha
   ·rw[ht]
    exact AG hc [.tmp 4] rfl (.inl rfl) (by simp) (by unfold PQ;first|exact eR|refine Ap ?_)
def El (a b:List Int):Bool:=((PQ a b).length:Int)==0
def LT:Ac:={ ins:=[A6,A6],pre:=fun(a,_,_)=>List.length a≤100000,out:=fun(a,b,_)=>[.p .bool (El a b)],lend:=true }
attribute [local go_sem] LT
theorem VG:Ai Tryz.prog 138 LT:=by
 refine AP Tryz.func138 (by kernel_rfl) rfl Tryz.ntmps138 (by decide) (by kernel_rfl) (AH [(156,XE)]) (AE s7 AI) ?_
 rintro w0 O0 ⟨a,b,u⟩ hc-ha
 have ha:a.length≤100000:=ha
 simp only[LT,AM]
 repeat'(first|exact trivial|refine eS rfl ?_|refine AB ?_|refine rX [0,1,4] hc ?_ ?_|refine rC ?_ ?_<;>intro AA<;>try(cases AA;done))
 ·exact ha
 ·exact AG hc [.tmp 4] rfl (.inl rfl) (by simp) (by unfold El;first|exact eR|refine Ap ?_)
def FJ (a b:List Int):Bool:=El a b&&El b a
def RT:Ac:={ ins:=[A6,A6],pre:=fun(a,b,_)=>List.length a≤100000∧List.length b≤100000,out:=fun(a,b,_)=>[.p .bool (FJ a b)],lend:=true }
theorem nZ:Ai Tryz.prog 134 RT:=by
 refine AP Tryz.func134 (by kernel_rfl) rfl Tryz.ntmps134 (by decide) (by kernel_rfl) (AH [(138,LT)]) (AE VG AI) ?_
 rintro w0 O0 ⟨a,b,u⟩ hc-⟨ha,hb⟩
 simp only[RT,AM]
 repeat'(first|exact trivial|refine eS rfl ?_|refine AB ?_|refine rX [0,1,4] hc ?_ ?_|refine rC ?_ ?_<;>intro AA<;>try(cases AA;done))
 ·exact⟨ha,fun _=>hb⟩
 ·exact AG hc [.tmp 4] rfl (.inl rfl) (by simp) (by unfold FJ;first|exact eR|refine Ap ?_)
end
/- Functions of grammarlabref02: Same, List. -/
section
attribute [local go_sem] b8
def HB (a b:List Int):Bool:=decide (a=b)
def L5:Ac:={ ins:=[A6,A6],pre:=fun _=>True,out:=fun(a,b,_)=>[.p .bool (HB a b)],lend:=true }
theorem XF:Ai Tryz.prog 125 L5:=by
 refine AP Tryz.func125 (by kernel_rfl) rfl Tryz.ntmps125 (by decide) (by kernel_rfl) (AH []) AI ?_
 rintro w0 O0 ⟨a,b,u⟩ hc ⟨⟨ha,-⟩,-⟩ -
 simp only[AO]at ha
 simp only[L5,AM]
 repeat'(first|exact trivial|refine eS rfl ?_|refine AB ?_|refine rX [0,1,4,5,10,14,25] hc ?_ ?_|refine rC ?_ ?_<;>intro AA<;>try(cases AA;done))
 ·have h1:HB a b=false:=by
   unfold HB
   rw[decide_eq_false_iff_not]
   rintro rfl
   exact AA rfl
  exact AG hc [.tmp 4] rfl (.inl rfl) (by simp) (by rw[h1];first|exact eR|refine Ap ?_)
 ·have hab:a.length=b.length:=by
   have:(a.length:Int)=(b.length:Int):=by simpa using AA
   exact Int.ofNat_inj.1 this
  refine AK (ι:={k:Nat//k≤a.length∧a.take k=b.take k}) (fun k=>⟨[(0,.p A6 a),(1,.p A6 b),(5,.p (.int .i64) (k.1:Int))],[]⟩) (fun k=>a.length-k.1) ⟨0,Nat.zero_le _,rfl⟩ (AC [] rfl rfl ?_ ?_) (fun k=>?_)
  ·first|exact eN|refine eM ?_
  ·first|exact eN|refine eM ?_
  ·obtain⟨k,hk,hf⟩:=k
   simp only
   repeat'(first|exact trivial|refine eS rfl ?_|refine AB ?_|refine rX [0,1,4,5,10,14,25] hc ?_ ?_|refine rC ?_ ?_<;>intro AA<;>try(cases AA;done))
   ·exact⟨AA,by rw[←hab];exact AA⟩
   ·have hk2:k<a.length:=by exact eV
    have h1:HB a b=false:=by
     unfold HB
     rw[decide_eq_false_iff_not]
     rintro rfl
     exact AA rfl
    exact AG hc [.tmp 4] rfl (.inl rfl) (by simp) (by rw[h1];first|exact eR|refine Ap ?_)
   ·exact eV
   ·have hk2:k<a.length:=by exact eV
    have he:a.getD k 0=b.getD k 0:=by simpa using AA
    refine⟨⟨k+1,by omega,?_⟩,by simp only;omega,AC [] rfl rfl ?_ ?_⟩
    ·rw[Ae a 0 hk2,Ae b 0 (by omega),hf]
     rw[show a.getD k 0=b.getD k 0 from he]
    ·first|exact eN|refine eM ?_
    ·first|exact eN|refine eM ?_
   ·have hk2:k=a.length:=by exact eV
    subst hk2
    rw[List.take_length,hab,List.take_length]at hf
    have h1:HB a b=true:=by unfold HB;rw[hf];simp
    exact AG hc [.tmp 4] rfl (.inl rfl) (by simp) (by rw[h1];first|exact eR|refine Ap ?_)
end
/- Functions of grammarlabref02: List, Count. -/
section
attribute [local go_sem] b8
def L6 (b:List Int) (n:Nat):List Int:=((List.range n).filter fun(i:Nat)=>Sc b (i:Int)).map fun(i:Nat)=>(i:Int)
def HC (b:List Int):List Int:=L6 b (64*b.length)
theorem cA (b:List Int) (n:Nat):L6 b (n+1)=L6 b n++if Sc b (n:Int)=true then [(n:Int)] else []:=by
 unfold L6
 rw[List.range_succ,List.filter_append,List.map_append]
 congr 1
 rw[List.filter_cons,List.filter_nil]
 split<;>rfl
theorem n4 (b:List Int) (n:Nat):(L6 b n).length≤n:=by
 unfold L6
 rw[List.length_map]
 exact Nat.le_trans (List.length_filter_le _ _) (by simp)
def kW:Ac:={ ins:=[A6],pre:=fun(b,_)=>List.length b≤100000,out:=fun(b,_)=>[.p Bx (HC b)] }
attribute [local go_sem] kW
theorem A02:Ai Tryz.prog 155 kW:=by
 refine AP Tryz.func155 (by kernel_rfl) rfl Tryz.ntmps155 (by decide) (by kernel_rfl) (AH [(135,b8)]) (AE s6 AI) ?_
 rintro w0 O0 ⟨b,u⟩ hc-hb
 have hb:b.length≤100000:=hb
 simp only[kW,AM]
 repeat'(first|exact trivial|refine eS rfl ?_|refine AB ?_|refine rX [0,2,3,4,9,14] hc ?_ ?_|refine rC ?_ ?_<;>intro AA<;>try(cases AA;done))
 refine AK (ι:={n:Nat//n≤64*b.length}) (fun n=>⟨[(0,.p A6 b),(3,.sr 18 T3 0 (L6 b n.1).length),(4,.p (.int .i64) (n.1:Int))],[(18,.arr 3 T3 (L6 b n.1))]⟩) (fun n=>64*b.length-n.1) ⟨0,Nat.zero_le _⟩ (AC [(18,.nil)] rfl rfl ?_ ?_) (fun n=>?_)
 ·first|exact eN|refine eM ?_
  rfl
 ·first|exact eN|refine eM ?_
  rfl
 ·obtain⟨n,hn⟩:=n
  have hz:=n4 b n
  have hs:=cA b n
  simp only
  repeat'(first|exact trivial|refine eS rfl ?_|refine AB ?_|refine rX [0,2,3,4,9,14] hc ?_ ?_|refine rC ?_ ?_<;>intro AA<;>try(cases AA;done))
  ·exact eV
  ·rw[AA,if_pos rfl]at hs
   simp only[AO]
   dsimp only[Ty.den]at *
   omega
  ·exact eV
  ·have hn2:n<64*b.length:=by exact eV
   rw[AA,if_pos rfl]at hs
   refine⟨⟨n+1,by omega⟩,by simp only;omega,AC [(18,.nm 18)] rfl rfl ?_ ?_⟩
   ·simp only[hs]
    first|exact eN|refine eM ?_
   ·simp only[hs]
    first|exact eN|refine eM ?_
  ·exact eV
  ·have hn2:n<64*b.length:=by exact eV
   rw[AA,if_neg (by simp),List.append_nil]at hs
   refine⟨⟨n+1,by omega⟩,by simp only;omega,AC [(18,.nm 18)] rfl rfl ?_ ?_⟩
   ·simp only[hs]
    first|exact eN|refine eM ?_
   ·simp only[hs]
    first|exact eN|refine eM ?_
  ·have hn2:n=64*b.length:=by exact eV
   subst hn2
   refine Gb [18] ?_
   exact AG hc [.tmp 2] rfl (.inl rfl) (by simp) (by unfold HC;first|exact eR|refine Ap ?_)
def XG:Ac:={ ins:=[A6],pre:=fun(b,_)=>List.length b≤100000,out:=fun(b,_)=>[.p T3 ((HC b).length:Int)],lend:=true }
theorem s8:Ai Tryz.prog 137 XG:=by
 refine AP Tryz.func137 (by kernel_rfl) rfl Tryz.ntmps137 (by decide) (by kernel_rfl) (AH [(155,kW)]) (AE A02 AI) ?_
 rintro w0 O0 ⟨b,u⟩ hc-hb
 simp only[XG,AM]
 repeat'(first|exact trivial|refine eS rfl ?_|refine AB ?_|refine rX [0,2] hc ?_ ?_|refine rC ?_ ?_<;>intro AA<;>try(cases AA;done))
 ·exact hb
 ·exact AG hc [.tmp 2] rfl (.inl rfl) (by simp) (by first|exact eR|refine Ap ?_)
end
/- Functions of grammarlabref03: find, sizes, ready. -/
section
attribute [local go_sem] Dj kU
abbrev AJ:=ByteArray×List ByteArray×List (ByteArray×ByteArray)
abbrev d0:AJ:=(ByteArray.empty,[],[])
def CR (s:ByteArray):Nat→List AJ→Int
 | _,[]=>-1
 | k,x :: l=>if Ar x.1 s=true then (k:Int) else CR s (k+1) l
def A7 (l:List AJ) (s:ByteArray):Int:=CR s 0 l
theorem QX (s:ByteArray) (l:List AJ) {k:Nat} (h:k<l.length):CR s k (l.drop k)=if Ar (l.getD k d0).1 s=true then (k:Int) else CR s (k+1) (l.drop (k+1)):=by
 rw[List.drop_eq_getElem_cons h]
 have e:l.getD k d0=l[k]:=by simp[List.getD_eq_getElem?_getD,h]
 rw[e]
 rfl
def GN:Ac:={ ins:=[EK,T9],pre:=fun _=>True,out:=fun(l,s,_)=>[.p T3 (A7 l s)] }
attribute [local go_sem] GN
theorem KX:Ai Tryz.prog 151 GN:=by
 refine AP Tryz.func151 (by kernel_rfl) rfl Tryz.ntmps151 (by decide) (by kernel_rfl) (AH []) AI ?_
 rintro w0 O0 ⟨l,s,u⟩ hc ⟨⟨hl,-⟩,-⟩ -
 simp only[AO]at hl
 simp only[GN,AM]
 repeat'(first|exact trivial|refine eS rfl ?_|refine AB ?_|refine rX [0,1,4,5,9,18] hc ?_ ?_|refine rC ?_ ?_<;>intro AA<;>try(cases AA;done))
 refine AK (ι:={k:Nat//k≤l.length∧CR s k (l.drop k)=A7 l s}) (fun k=>⟨[(0,.p EK l),(1,.p T9 s),(5,.p (.int .i64) (k.1:Int))],[]⟩) (fun k=>l.length-k.1) ⟨0,Nat.zero_le _,rfl⟩ (AC [] rfl rfl ?_ ?_) (fun k=>?_)
 ·first|exact eN|refine eM ?_
 ·first|exact eN|refine eM ?_
 ·obtain⟨k,hk,hf⟩:=k
  simp only
  repeat'(first|exact trivial|refine eS rfl ?_|refine AB ?_|refine rX [0,1,4,5,9,18] hc ?_ ?_|refine rC ?_ ?_<;>intro AA<;>try(cases AA;done))
  ·exact AA
  ·have hk2:k<l.length:=by exact eV
   rw[QX s l hk2,if_pos AA]at hf
   exact AG hc [.tmp 4] rfl (.inl rfl) (by simp) (by rw[←hf];first|exact eR|refine Ap ?_)
  ·exact eV
  ·have hk2:k<l.length:=by exact eV
   rw[QX s l hk2,if_neg (by rw[AA];simp)]at hf
   refine⟨⟨k+1,by omega,hf⟩,by simp only;omega,AC [] rfl rfl ?_ ?_⟩
   ·first|exact eN|refine eM ?_
   ·first|exact eN|refine eM ?_
  ·have hk2:l.drop k=[]:=List.drop_eq_nil_of_le (by exact eV)
   rw[hk2]at hf
   exact AG hc [.tmp 4] rfl (.inl rfl) (by simp) (by rw[←hf];first|exact eR|refine Ap ?_;rfl)
def KY:List AJ→Int
 | []=>0
 | x :: l=>if 256<x.2.1.length∨256<x.2.2.length then 7 else KY l
def EV (l:List AJ):Int:=if 256<l.length then 7 else KY l
theorem QY (l:List AJ) {k:Nat} (h:k<l.length):KY (l.drop k)=if 256<(l.getD k d0).2.1.length∨256<(l.getD k d0).2.2.length then 7 else KY (l.drop (k+1)):=by
 rw[List.drop_eq_getElem_cons h]
 have e:l.getD k d0=l[k]:=by simp[List.getD_eq_getElem?_getD,h]
 rw[e]
 rfl
def Sd:Ac:={ ins:=[EK],pre:=fun _=>True,out:=fun(l,_)=>[.p Yp (EV l)] }
attribute [local go_sem] Sd
theorem s9:Ai Tryz.prog 126 Sd:=by
 refine AP Tryz.func126 (by kernel_rfl) rfl Tryz.ntmps126 (by decide) (by kernel_rfl) (AH []) AI ?_
 rintro w0 O0 ⟨l,u⟩ hc ⟨⟨hl,-⟩,-⟩ -
 simp only[AO]at hl
 simp only[Sd,AM]
 repeat'(first|exact trivial|refine eS rfl ?_|refine AB ?_|refine rX [0,2,3,6,10,28] hc ?_ ?_|refine rC ?_ ?_<;>intro AA<;>try(cases AA;done))
 ·have h1:EV l=7:=by unfold EV;rw[if_pos (by exact eV)]
  exact AG hc [.tmp 2] rfl (.inl rfl) (by simp) (by rw[h1];first|exact eR|refine Ap ?_)
 ·have h1:EV l=KY l:=by unfold EV;rw[if_neg (by exact eV)]
  refine AK (ι:={k:Nat//k≤l.length∧KY (l.drop k)=EV l}) (fun k=>⟨[(0,.p EK l),(3,.p (.int .i64) (k.1:Int))],[]⟩) (fun k=>l.length-k.1) ⟨0,Nat.zero_le _,h1.symm⟩ (AC [] rfl rfl ?_ ?_) (fun k=>?_)
  ·first|exact eN|refine eM ?_
  ·first|exact eN|refine eM ?_
  ·obtain⟨k,hk,hf⟩:=k
   simp only
   repeat'(first|exact trivial|refine eS rfl ?_|refine AB ?_|refine rX [0,2,3,6,10,28] hc ?_ ?_|refine rC ?_ ?_<;>intro AA<;>try(cases AA;done))
   ·exact⟨AA,fun _=>AA⟩
   ·have hk2:k<l.length:=by exact eV
    rw[QY l hk2,if_pos (by
     rcases AA with h|h
     ·exact .inl (Int.ofNat_lt.1 h)
     ·exact .inr (Int.ofNat_lt.1 h))]at hf
    exact AG hc [.tmp 2] rfl (.inl rfl) (by simp) (by rw[←hf];first|exact eR|refine Ap ?_)
   ·exact eV
   ·have hk2:k<l.length:=by exact eV
    rw[QY l hk2,if_neg (by
     rintro (h|h)
     ·have:=Int.ofNat_le.1 AA.1;exact absurd h (Nat.not_lt.2 this)
     ·have:=Int.ofNat_le.1 AA.2;exact absurd h (Nat.not_lt.2 this))]at hf
    refine⟨⟨k+1,by omega,hf⟩,by simp only;omega,AC [] rfl rfl ?_ ?_⟩
    ·first|exact eN|refine eM ?_
    ·first|exact eN|refine eM ?_
   ·have hk2:l.drop k=[]:=List.drop_eq_nil_of_le (by exact eV)
    rw[hk2]at hf
    exact AG hc [.tmp 2] rfl (.inl rfl) (by simp) (by rw[←hf];first|exact eR|refine Ap ?_;rfl)
theorem Io {α:Type} (l:List α) (d:α) (p:α→Bool) {k:Nat} (h:k<l.length):(l.take (k+1)).all p=((l.take k).all p&&p (l.getD k d)):=by
 rw[Ae l d h,List.all_append];simp
def HD (x:AJ) (done:List ByteArray):Bool:=x.2.1.all fun s=>Aa done s
def Se:Ac:={ ins:=[nU,Bq],pre:=fun _=>True,out:=fun(x,l,_)=>[.p .bool (HD x l)],lend:=true }
attribute [local go_sem] Se
theorem tA:Ai Tryz.prog 152 Se:=by
 refine AP Tryz.func152 (by kernel_rfl) rfl Tryz.ntmps152 (by decide) (by kernel_rfl) (AH [(131,Dj)]) (AE GB AI) ?_
 rintro w0 O0 ⟨⟨nm,sup,fe⟩,l,u⟩ hc ⟨⟨-,⟨hsz,-⟩,-⟩,-⟩ -
 simp only[AO]at hsz
 simp only[Se,AM]
 repeat'(first|exact trivial|refine eS rfl ?_|refine AB ?_|refine rX [0,1,2,4,5,10,20] hc ?_ ?_|refine rC ?_ ?_<;>intro AA<;>try(cases AA;done))
 refine AK (ι:={k:Nat//k≤sup.length∧(sup.take k).all (fun s=>Aa l s)=true}) (fun k=>⟨[(1,.p Bq l),(2,.bp 2 [] 0),(5,.p (.int .i64) (k.1:Int))],[(2,.box 119 true [.p T9 nm,.p Bq sup,.p Yr fe])]⟩) (fun k=>sup.length-k.1) ⟨0,by simp⟩ (AC [(2,.nm 2)] rfl rfl ?_ ?_) (fun k=>?_)
 ·first|exact eN|refine eM ?_
 ·first|exact eN|refine eM ?_
 ·obtain⟨k,hk,hf⟩:=k
  simp only
  repeat'(first|exact trivial|refine eS rfl ?_|refine AB ?_|refine rX [0,1,2,4,5,10,20] hc ?_ ?_|refine rC ?_ ?_<;>intro AA<;>try(cases AA;done))
  ·exact AA
  ·have hk2:k<sup.length:=by exact eV
   have h1:HD (nm,sup,fe) l=false:=by
    unfold HD
    refine Bool.eq_false_iff.2 fun h=>?_
    have:=List.all_eq_true.1 h _ (AD sup ByteArray.empty hk2)
    rw[AA]at this
    cases this
   exact AG hc [.tmp 4] rfl (.inl rfl) (by simp) (by rw[h1];first|exact eR|refine Ap ?_)
  ·have:=hsz
   exact eV
  ·have hk2:k<sup.length:=by exact eV
   refine⟨⟨k+1,by omega,?_⟩,by simp only;omega,AC [(2,.nm 2)] rfl rfl ?_ ?_⟩
   ·rw[Io sup ByteArray.empty _ hk2,hf]
    exact AA
   ·first|exact eN|refine eM ?_
   ·first|exact eN|refine eM ?_
  ·have hk2:sup.take k=sup:=List.take_of_length_le (by exact eV)
   rw[hk2]at hf
   have h1:HD (nm,sup,fe) l=true:=hf
   exact AG hc [.tmp 4] rfl (.inl rfl) (by simp) (by rw[h1];first|exact eR|refine Ap ?_)
def Mi (d:List AJ):Nat→List AJ→Int
 | _,[]=>0
 | k,x :: l=>if EU x.1 false=false then 1 else if A7 d x.1<(k:Int) then 4 else Mi d (k+1) l
def DL (d:List AJ):Int:=Mi d 0 d
theorem KZ (d l:List AJ) {k:Nat} (h:k<l.length):Mi d k (l.drop k)=if EU (l.getD k d0).1 false=false then 1 else if A7 d (l.getD k d0).1<(k:Int) then 4 else Mi d (k+1) (l.drop (k+1)):=by
 rw[List.drop_eq_getElem_cons h]
 have e:l.getD k d0=l[k]:=by simp[List.getD_eq_getElem?_getD,h]
 rw[e]
 rfl
def Sf:Ac:={ ins:=[EK],pre:=fun _=>True,out:=fun(l,_)=>[.p Yp (DL l)] }
attribute [local go_sem] Sf
theorem tB:Ai Tryz.prog 127 Sf:=by
 refine AP Tryz.func127 (by kernel_rfl) rfl Tryz.ntmps127 (by decide) (by kernel_rfl) (AH [(150,kU),(151,GN)]) (AE A01 (AE KX AI)) ?_
 rintro w0 O0 ⟨l,u⟩ hc ⟨⟨hl,-⟩,-⟩ -
 simp only[AO]at hl
 simp only[Sf,AM]
 repeat'(first|exact trivial|refine eS rfl ?_|refine AB ?_|refine rX [0,2,3,7,16,25] hc ?_ ?_|refine rC ?_ ?_<;>intro AA<;>try(cases AA;done))
 refine AK (ι:={k:Nat//k≤l.length∧Mi l k (l.drop k)=DL l}) (fun k=>⟨[(0,.p EK l),(3,.p (.int .i64) (k.1:Int))],[]⟩) (fun k=>l.length-k.1) ⟨0,Nat.zero_le _,rfl⟩ (AC [] rfl rfl ?_ ?_) (fun k=>?_)
 ·first|exact eN|refine eM ?_
 ·first|exact eN|refine eM ?_
 ·obtain⟨k,hk,hf⟩:=k
  simp only
  repeat'(first|exact trivial|refine eS rfl ?_|refine AB ?_|refine rX [0,2,3,7,16,25] hc ?_ ?_|refine rC ?_ ?_<;>intro AA<;>try(cases AA;done))
  ·exact AA
  ·have hk2:k<l.length:=by exact eV
   rw[KZ l l hk2,if_pos AA]at hf
   exact AG hc [.tmp 2] rfl (.inl rfl) (by simp) (by rw[←hf];first|exact eR|refine Ap ?_)
  ·assumption
  ·rename_i hnm
   have hk2:k<l.length:=by exact eV
   rw[KZ l l hk2,if_neg (by rw[hnm];simp),if_pos AA]at hf
   exact AG hc [.tmp 2] rfl (.inl rfl) (by simp) (by rw[←hf];first|exact eR|refine Ap ?_)
  ·exact eV
  ·rename_i hnm
   have hk2:k<l.length:=by exact eV
   rw[KZ l l hk2,if_neg (by rw[hnm];simp),if_neg (Int.not_lt.2 AA)]at hf
   refine⟨⟨k+1,by omega,hf⟩,by simp only;omega,AC [] rfl rfl ?_ ?_⟩
   ·first|exact eN|refine eM ?_
   ·first|exact eN|refine eM ?_
  ·have hk2:l.drop k=[]:=List.drop_eq_nil_of_le (by exact eV)
   rw[hk2]at hf
   exact AG hc [.tmp 2] rfl (.inl rfl) (by simp) (by rw[←hf];first|exact eR|refine Ap ?_;rfl)
def RD (d:List AJ) (l:List ByteArray):Nat→List ByteArray→Int
 | _,[]=>0
 | k,x :: r=>if A7 d x<0 then 5 else if Aa (l.take k) x=true then 4 else RD d l (k+1) r
def JM (d:List AJ):List AJ→Int
 | []=>0
 | x :: l=>if RD d x.2.1 0 x.2.1≠0 then RD d x.2.1 0 x.2.1 else JM d l
def JN (d:List AJ):Int:=JM d d
theorem PR (d:List AJ) (l:List ByteArray) {k:Nat} (h:k<l.length):RD d l k (l.drop k)=if A7 d (l.getD k ByteArray.empty)<0 then 5 else if Aa (l.take k) (l.getD k ByteArray.empty)=true then 4 else RD d l (k+1) (l.drop (k+1)):=by
 rw[List.drop_eq_getElem_cons h]
 have e:l.getD k ByteArray.empty=l[k]:=by simp[List.getD_eq_getElem?_getD,h]
 rw[e]
 rfl
theorem XH (d l:List AJ) {k:Nat} (h:k<l.length):JM d (l.drop k)=if RD d (l.getD k d0).2.1 0 (l.getD k d0).2.1≠0 then RD d (l.getD k d0).2.1 0 (l.getD k d0).2.1 else JM d (l.drop (k+1)):=by
 rw[List.drop_eq_getElem_cons h]
 have e:l.getD k d0=l[k]:=by simp[List.getD_eq_getElem?_getD,h]
 rw[e]
 rfl
def Nx:Ac:={ ins:=[EK],pre:=fun _=>True,out:=fun(l,_)=>[.p Yp (JN l)] }
attribute [local go_sem] Nx
theorem n5:Ai Tryz.prog 128 Nx:=by
 refine AP Tryz.func128 (by kernel_rfl) rfl Tryz.ntmps128 (by decide) (by kernel_rfl) (AH [(131,Dj),(151,GN)]) (AE GB (AE KX AI)) ?_
 rintro w0 O0 ⟨l,u⟩ hc ⟨⟨hl,hall⟩,-⟩ -
 simp only[AO]at hl
 simp only[Nx,AM]
 repeat'(first|exact trivial|refine eS rfl ?_|refine AB ?_|refine rX [0,2,3,4,5,9,20,29,37] hc ?_ ?_|refine rC ?_ ?_<;>intro AA<;>try(cases AA;done))
 refine AK (ι:={i:Nat//i≤l.length∧JM l (l.drop i)=JN l}) (fun i=>⟨[(0,.p EK l),(3,.p (.int .i64) (i.1:Int))],[]⟩) (fun i=>l.length-i.1) ⟨0,Nat.zero_le _,rfl⟩ (AC [] rfl rfl ?_ ?_) (fun i=>?_)
 ·first|exact eN|refine eM ?_
 ·first|exact eN|refine eM ?_
 ·obtain⟨i,hi,hf⟩:=i
  simp only
  repeat'(first|exact trivial|refine eS rfl ?_|refine AB ?_|refine rX [0,2,3,4,5,9,20,29,37] hc ?_ ?_|refine rC ?_ ?_<;>intro AA<;>try(cases AA;done))
  ·exact AA
  ·have hi2:i<l.length:=by exact eV
   have hm:=hall _ (AD l d0 hi2)
   have hml:(l.getD i d0).2.1.length≤AO:=hm.2.1.1
   simp only[AO]at hml
   rw[XH l l hi2]at hf
   generalize (l.getD i d0).2.1=sup at *
   refine AK (ι:={k:Nat//k≤sup.length∧RD l sup k (sup.drop k)=RD l sup 0 sup}) (fun k=>⟨[(0,.p EK l),(3,.p (.int .i64) (i:Int)),(4,.p Bq sup),(5,.p (.int .i64) (k.1:Int))],[]⟩) (fun k=>sup.length-k.1) ⟨0,Nat.zero_le _,rfl⟩ (AC [] rfl rfl ?_ ?_) (fun k=>?_)
   ·first|exact eN|refine eM ?_
   ·first|exact eN|refine eM ?_
   ·obtain⟨k,hk,hg⟩:=k
    simp only
    repeat'(first|exact trivial|refine eS rfl ?_|refine AB ?_|refine rX [0,2,3,4,5,9,20,29,37] hc ?_ ?_|refine rC ?_ ?_<;>intro AA<;>try(cases AA;done))
    ·exact AA
    ·have hk2:k<sup.length:=by exact eV
     rw[PR l sup hk2,if_pos AA]at hg
     rw[←hg,if_pos (by decide)]at hf
     exact AG hc [.tmp 2] rfl (.inl rfl) (by simp) (by rw[←hf];first|exact eR|refine Ap ?_)
    ·exact eV
    ·rename_i hge
     have hk2:k<sup.length:=by exact eV
     rw[PR l sup hk2,if_neg (Int.not_lt.2 hge),if_pos AA]at hg
     rw[←hg,if_pos (by decide)]at hf
     exact AG hc [.tmp 2] rfl (.inl rfl) (by simp) (by rw[←hf];first|exact eR|refine Ap ?_)
    ·exact eV
    ·rename_i hge
     have hk2:k<sup.length:=by exact eV
     rw[PR l sup hk2,if_neg (Int.not_lt.2 hge),if_neg (by rw[AA];simp)]at hg
     refine⟨⟨k+1,by omega,hg⟩,by simp only;omega,AC [] rfl rfl ?_ ?_⟩
     ·first|exact eN|refine eM ?_
     ·first|exact eN|refine eM ?_
    ·exact eV
    ·have hk2:sup.drop k=[]:=List.drop_eq_nil_of_le (by exact eV)
     rw[hk2]at hg
     rw[←hg,if_neg (by simp[RD])]at hf
     refine⟨⟨i+1,by omega,hf⟩,by simp only;omega,AC [] rfl rfl ?_ ?_⟩
     ·first|exact eN|refine eM ?_
     ·first|exact eN|refine eM ?_
  ·have hk2:l.drop i=[]:=List.drop_eq_nil_of_le (by exact eV)
   rw[hk2]at hf
   exact AG hc [.tmp 2] rfl (.inl rfl) (by simp) (by rw[←hf];first|exact eR|refine Ap ?_;rfl)
end
/- Functions of grammarlabref03: Names, placed. -/
section
attribute [local go_sem] GN Se Dj Mh
theorem EL {α β:Type} (g:β→α→β) (l:List α) (d:α) (t:β) {i:Nat} (hi:i<l.length):(l.take (i+1)).foldl g t=g ((l.take i).foldl g t) (l.getD i d):=by
 rw[Ae l d hi,List.foldl_append];rfl
theorem Ka (l:List ByteArray) (s:ByteArray):(Dk l s).length≤l.length+1:=by
 unfold Dk
 split
 ·omega
 ·have:=A16 (fun x=>GT x s) l
  have h2:qD l s≤l.length:=this
  simp only[List.length_append,List.length_take,List.length_drop,List.length_singleton]
  omega
def AR (l:List AJ):List ByteArray:=l.foldl (fun o x=>Dk o x.1) []
theorem Er (l:List AJ) (k:Nat):(AR (l.take k)).length≤k:=by
 have key:∀(l:List AJ) (o:List ByteArray),(l.foldl (fun o x=>Dk o x.1) o).length≤o.length+l.length:=by
  intro l
  induction l with
  | nil=>intro o;simp
  | cons x l ih =>
   intro o
   have h1:=ih (Dk o x.1)
   have h2:=Ka o x.1
   simp only[List.foldl_cons,List.length_cons]
   omega
 have h1:=key (l.take k) []
 have h2:=List.length_take_le k l
 unfold AR
 simp only[List.length_nil]at h1
 omega
def JO:Ac:={ ins:=[EK],pre:=fun(l,_)=>List.length l≤100000,out:=fun(l,_)=>[.p Bq (AR l)] }
attribute [local go_sem] JO
theorem VH:Ai Tryz.prog 89 JO:=by
 refine AP Tryz.func89 (by kernel_rfl) rfl Tryz.ntmps89 (by decide) (by kernel_rfl) (AH [(122,Mh)]) (AE PP AI) ?_
 rintro w0 O0 ⟨l,u⟩ hc-hl
 have hl:l.length≤100000:=hl
 simp only[JO,AM]
 repeat'(first|exact trivial|refine eS rfl ?_|refine AB ?_|refine rX [0,2,3,4,8] hc ?_ ?_|refine rC ?_ ?_<;>intro AA<;>try(cases AA;done))
 refine AK (ι:={k:Nat//k≤l.length}) (fun k=>⟨[(0,.p EK l),(3,.p Bq (AR (l.take k.1))),(4,.p (.int .i64) (k.1:Int))],[]⟩) (fun k=>l.length-k.1) ⟨0,Nat.zero_le _⟩ (AC [] rfl rfl ?_ ?_) (fun k=>?_)
 ·first|exact eN|refine eM ?_
 ·first|exact eN|refine eM ?_
  rfl
 ·obtain⟨k,hk⟩:=k
  have hn:=Er l k
  have hs:=fun h:k<l.length=>EL (fun(o:List ByteArray) (x:AJ)=>Dk o x.1) l d0 [] h
  simp only
  repeat'(first|exact trivial|refine eS rfl ?_|refine AB ?_|refine rX [0,2,3,4,8] hc ?_ ?_|refine rC ?_ ?_<;>intro AA<;>try(cases AA;done))
  ·exact⟨AA,by omega⟩
  ·exact eV
  ·have hk2:k<l.length:=by exact eV
   have e:=hs hk2
   refine⟨⟨k+1,by omega⟩,by simp only;omega,AC [] rfl rfl ?_ ?_⟩
   ·first|exact eN|refine eM ?_
   ·simp only
    have e:AR (l.take (k+1))=Dk (AR (l.take k)) (l.getD k d0).1:=e
    rw[e]
    first|exact eN|refine eM ?_
  ·have hk2:l.take k=l:=List.take_of_length_le (by exact eV)
   rw[hk2]
   exact AG hc [.tmp 2] rfl (.inl rfl) (by simp) (by first|exact eR|refine Ap ?_)
def Hs (out:List ByteArray) (s:Bool×ByteArray) (x:AJ):Bool×ByteArray :=
 if (Aa out x.1||!HD x out)=true then s else (true,if (!s.1||GT x.1 s.2)=true then x.1 else s.2)
def HE (d:List AJ) (out:List ByteArray):Bool×ByteArray:=d.foldl (Hs out) (false,ByteArray.empty)
def Ht (d:List AJ):Nat→List ByteArray→List ByteArray
 | 0,out=>out
 | n+1,out=>if (HE d out).1=true then Ht d n (out++[(HE d out).2]) else out
def BZ (d:List AJ):List ByteArray:=Ht d d.length []
def HF (d:List AJ) (out:List ByteArray):Nat:=d.countP fun x=>!Aa out x.1
theorem Es (s:ByteArray):Ar s s=true:=by unfold Ar;simp
theorem Mj (out:List ByteArray) (s x:ByteArray):Aa (out++[s]) x=(Aa out x||Ar s x):=by
 unfold Aa
 simp[List.any_append]
theorem n6 (d:List AJ) (out:List ByteArray) (h:(HE d out).1=true):∃x∈d,x.1=(HE d out).2∧Aa out x.1=false:=by
 have key:∀(l:List AJ) (s:Bool×ByteArray),(∀x∈l,x∈d)→(s.1=true→∃x∈d,x.1=s.2∧Aa out x.1=false)→(l.foldl (Hs out) s).1=true →
   ∃x∈d,x.1=(l.foldl (Hs out) s).2∧Aa out x.1=false:=by
  intro l
  induction l with
  | nil=>intro s _ hs h;exact hs h
  | cons y l ih =>
   intro s hl hs h
   rw[List.foldl_cons]at h ⊢
   refine ih _ (fun x hx=>hl x (by simp[hx])) (fun hp=>?_) h
   unfold Hs at hp ⊢
   split
   ·rename_i hc
    rw[if_pos hc]at hp
    exact hs hp
   ·rename_i hc
    simp only
    have hy:Aa out y.1=false:=by
     cases hh:Aa out y.1 with
     | false=>rfl
     | true=>rw[hh]at hc;simp at hc
    split
    ·exact⟨y,hl y (by simp),rfl,hy⟩
    ·rename_i hc2
     have:s.1=true:=by
      cases hh:s.1 with
      | true=>rfl
      | false=>rw[hh]at hc2;simp at hc2
     exact hs this
 exact key d _ (fun _ h=>h) (fun h=>by cases h) h
theorem Yz {d:List AJ} {out:List ByteArray} (h:(HE d out).1=true):HF d (out++[(HE d out).2])<HF d out:=by
 obtain⟨x,hx,h1,h2⟩:=n6 d out h
 generalize (HE d out).2=s at *
 unfold HF
 have key:∀l:List AJ,(l.countP fun y=>!Aa (out++[s]) y.1)≤l.countP fun y=>!Aa out y.1:=by
  intro l
  refine List.countP_mono_left fun y _ hy=>?_
  rw[Mj]at hy
  cases hh:Aa out y.1 with
  | false=>rfl
  | true=>rw[hh]at hy;simp at hy
 obtain⟨l1,l2,rfl⟩:=List.append_of_mem hx
 rw[List.countP_append,List.countP_append,List.countP_cons,List.countP_cons]
 have k1:=key l1
 have k2:=key l2
 have e1:Aa (out++[s]) x.1=true:=by rw[Mj,h1,Es,Bool.or_true]
 rw[e1,h2]
 simp only[Bool.not_true,Bool.not_false,if_true]
 simp only[Bool.false_eq_true,if_false]
 omega
def RU:Ac:={ ins:=[EK],pre:=fun(l,_)=>List.length l≤100000,out:=fun(l,_)=>[.p Bq (BZ l)] }
theorem n7:Ai Tryz.prog 129 RU:=by
 refine AP Tryz.func129 (by kernel_rfl) rfl Tryz.ntmps129 (by decide) (by kernel_rfl) (AH [(131,Dj),(152,Se)]) (AE GB (AE tA AI)) ?_
 rintro w0 O0 ⟨d,u⟩ hc-hd
 have hd:d.length≤100000:=hd
 simp only[RU,AM]
 repeat'(first|exact trivial|refine eS rfl ?_|refine AB ?_|refine rX [0,2,3,4,5,6,7,11,29,40,46] hc ?_ ?_|refine rC ?_ ?_<;>intro AA<;>try(cases AA;done))
 refine AK (ι:={x:Nat×List ByteArray×Bool//x.1+x.2.1.length≤d.length∧(x.2.2=true→HF d x.2.1≤x.1∧Ht d x.1 x.2.1=BZ d)∧(x.2.2=false→x.2.1=BZ d)}) (fun x=>⟨[(0,.p EK d),(3,.sr 50 T9 0 x.1.2.1.length),(4,.p .bool x.1.2.2)],[(50,.arr 9 T9 x.1.2.1)]⟩) (fun x=>(if x.1.2.2=true then x.1.1+1 else 0)) ⟨(d.length,[],true),by simp,fun _=>⟨List.countP_le_length,rfl⟩,fun h=>by cases h⟩ (AC [(50,.nil)] rfl rfl ?_ ?_) (fun x=>?_)
 ·first|exact eN|refine eM ?_
 ·first|exact eN|refine eM ?_
 ·obtain⟨⟨n,out,more⟩,hlen,hm1,hm2⟩:=x
  simp only at hlen hm1 hm2
  simp only
  repeat'(first|exact trivial|refine eS rfl ?_|refine AB ?_|refine rX [0,2,3,4,5,6,7,11,29,40,46] hc ?_ ?_|refine rC ?_ ?_<;>intro AA<;>try(cases AA;done))
  ·subst AA
   obtain⟨hu,hp⟩:=hm1 rfl
   have hz:({ data:=#[] }:ByteArray).size≤AO:=by decide
   rw[if_pos hz]
   refine AK (ι:={y:Nat×Bool×ByteArray//y.1≤d.length∧(d.take y.1).foldl (Hs out) (false,ByteArray.empty)=y.2}) (fun y=>⟨[(0,.p EK d),(3,.sr 50 T9 0 out.length),(4,.p .bool y.1.2.1),(5,.p T9 y.1.2.2),(6,.p (.int .i64) (y.1.1:Int))],[(50,.arr 9 T9 out)]⟩) (fun y=>d.length-y.1.1) ⟨(0,false,ByteArray.empty),by simp,rfl⟩ (AC [(50,.nm 50)] rfl rfl ?_ ?_) (fun y=>?_)
   ·first|exact eN|refine eM ?_
   ·first|exact eN|refine eM ?_
    rfl
   ·obtain⟨⟨k,mo,nx⟩,hk,hfold⟩:=y
    simp only at hk hfold
    have hstep:∀h:k<d.length,(d.take (k+1)).foldl (Hs out) (false,ByteArray.empty)=Hs out (mo,nx) (d.getD k d0):=fun h=>by
     rw[EL (Hs out) d d0 _ h,hfold]
    simp only
    repeat'(first|exact trivial|refine eS rfl ?_|refine AB ?_|refine rX [0,2,3,4,5,6,7,11,29,40,46] hc ?_ ?_|refine rC ?_ ?_<;>intro AA<;>try(cases AA;done))
    ·exact⟨AA,fun _=>AA⟩
    ·exact eV
    ·have hk2:k<d.length:=by exact eV
     refine⟨⟨(k+1,mo,nx),by simp only;omega,?_⟩,by simp only;omega,AC [(50,.nm 50)] rfl rfl ?_ ?_⟩
     ·simp only
      rw[hstep hk2]
      unfold Hs
      rw[if_pos]
      rw[Bool.or_eq_true,Bool.not_eq_true']
      exact AA
     ·first|exact eN|refine eM ?_
     ·first|exact eN|refine eM ?_
    ·exact fun _=>by assumption
    ·assumption
    ·exact eV
    ·rename_i hc2
     have hk2:k<d.length:=by exact eV
     refine⟨⟨(k+1,true,(d.getD k d0).1),by simp only;omega,?_⟩,by simp only;omega,AC [(50,.nm 50)] rfl rfl ?_ ?_⟩
     ·simp only
      rw[hstep hk2]
      unfold Hs
      rw[if_neg (by rw[hc2.1,hc2.2];simp),if_pos (by rw[Bool.or_eq_true,Bool.not_eq_true'];exact AA)]
     ·first|exact eN|refine eM ?_
     ·first|exact eN|refine eM ?_
    ·exact eV
    ·rename_i hc2
     have hk2:k<d.length:=by exact eV
     refine⟨⟨(k+1,true,nx),by simp only;omega,?_⟩,by simp only;omega,AC [(50,.nm 50)] rfl rfl ?_ ?_⟩
     ·simp only
      rw[hstep hk2]
      unfold Hs
      rw[if_neg (by rw[hc2.1,hc2.2];simp),if_neg (by rw[Bool.or_eq_true,Bool.not_eq_true'];rintro (h|h)<;>simp_all)]
     ·first|exact eN|refine eM ?_
     ·first|exact eN|refine eM ?_
    ·simp only[AO]
     dsimp only[Ty.den]at *
     omega
    ·subst AA
     have hkd:d.take k=d:=List.take_of_length_le (by exact eV)
     rw[hkd]at hfold
     have hpk:HE d out=(true,nx):=hfold
     have hlt:=Yz (d:=d) (out:=out) (by rw[hpk])
     rw[hpk]at hlt
     obtain⟨n',rfl⟩:∃n',n=n'+1:=⟨n-1,by omega⟩
     have hp2:Ht d n' (out++[nx])=BZ d:=by
      rw[←hp]
      show _=if (HE d out).1=true then Ht d n' (out++[(HE d out).2]) else out
      rw[hpk,if_pos rfl]
     have hlt:HF d (out++[nx])<HF d out:=hlt
     have hun:HF d (out++[nx])≤n':=by omega
     refine⟨⟨(n',out++[nx],true),by simp only[List.length_append,List.length_singleton];omega,fun _=>⟨hun,hp2⟩,fun h=>by cases h⟩,by simp,AC [(50,.nm 50)] rfl rfl ?_ ?_⟩
     ·first|exact eN|refine eM ?_
     ·first|exact eN|refine eM ?_
    ·subst AA
     have hkd:d.take k=d:=List.take_of_length_le (by exact eV)
     rw[hkd]at hfold
     have hpk:HE d out=(false,nx):=hfold
     have hp2:out=BZ d:=by
      rw[←hp]
      cases n with
      | zero=>rfl
      | succ n =>
       show _=if (HE d out).1=true then Ht d n (out++[(HE d out).2]) else out
       rw[hpk,if_neg (by simp)]
     refine⟨⟨(n,out,false),hlen,(fun h=>by cases h),fun _=>hp2⟩,by simp,AC [(50,.nm 50)] rfl rfl ?_ ?_⟩
     ·first|exact eN|refine eM ?_
     ·first|exact eN|refine eM ?_
  ·subst AA
   have hout:=hm2 rfl
   rw[hout]
   refine Gb [50] ?_
   exact AG hc [.tmp 2] rfl (.inl rfl) (by simp) (by first|exact eR|refine Ap ?_)
end
/- Functions of grammarlabref03: Check. -/
section
attribute [local go_sem] Sd Sf Nx RU
def HG (d:List AJ):Nat:=d.countP fun x=>x.2.1.length==0
theorem Y0 (d:List AJ) {k:Nat} (h:k<d.length):HG (d.take (k+1))=HG (d.take k)+if ((d.getD k d0).2.1.length==0)=true then 1 else 0:=by
 unfold HG
 rw[Ae d d0 h,List.countP_append,List.countP_cons,List.countP_nil]
 omega
theorem n8 (d:List AJ):HG d≤d.length:=List.countP_le_length
def BE (d:List AJ):Int :=
 if EV d≠0 then EV d else if DL d≠0 then DL d else if JN d≠0 then JN d else if HG d≠1 then 1 else if (BZ d).length<d.length then 6 else 0
theorem QZ {d:List AJ} (h:EV d=0):d.length≤256:=by
 unfold EV at h
 split at h
 ·cases h
 ·omega
def Ny:Ac:={ ins:=[EK],pre:=fun _=>True,out:=fun(l,_)=>[.p Yp (BE l)] }
attribute [local go_sem] Ny
theorem n9:Ai Tryz.prog 88 Ny:=by
 refine AP Tryz.func88 (by kernel_rfl) rfl Tryz.ntmps88 (by decide) (by kernel_rfl) (AH [(126,Sd),(127,Sf),(128,Nx),(129,RU)]) (AE s9 (AE tB (AE n5 (AE n7 AI)))) ?_
 rintro w0 O0 ⟨d,u⟩ hc - -
 simp only[Ny,AM]
 repeat'(first|exact trivial|refine eS rfl ?_|refine AB ?_|refine rX [0,2,3,4,5,6,7,11,16,21,26,35,39,45] hc ?_ ?_|refine rC ?_ ?_<;>intro AA<;>try(cases AA;done))
 ·have h1:BE d=EV d:=by unfold BE;rw[if_pos AA]
  exact AG hc [.tmp 2] rfl (.inl rfl) (by simp) (by rw[h1];first|exact eR|refine Ap ?_)
 ·rename_i hs
  have hs:EV d=0:=by simpa using hs
  have h1:BE d=DL d:=by unfold BE;rw[if_neg (by rw[hs];simp),if_pos AA]
  exact AG hc [.tmp 2] rfl (.inl rfl) (by simp) (by rw[h1];first|exact eR|refine Ap ?_)
 ·rename_i hs hn
  have hs:EV d=0:=by simpa using hs
  have hn:DL d=0:=by simpa using hn
  have h1:BE d=JN d:=by unfold BE;rw[if_neg (by rw[hs];simp),if_neg (by rw[hn];simp),if_pos AA]
  exact AG hc [.tmp 2] rfl (.inl rfl) (by simp) (by rw[h1];first|exact eR|refine Ap ?_)
 ·rename_i hs hn
  have hs:EV d=0:=by simpa using hs
  have hn:DL d=0:=by simpa using hn
  have hu:JN d=0:=by simpa using AA
  have hd:=QZ hs
  have h1:BE d=if HG d≠1 then 1 else if (BZ d).length<d.length then 6 else 0:=by
   unfold BE;rw[if_neg (by rw[hs];simp),if_neg (by rw[hn];simp),if_neg (by rw[hu];simp)]
  refine AK (ι:={k:Nat//k≤d.length}) (fun k=>⟨[(0,.p EK d),(6,.p (.int .i64) (HG (d.take k.1):Int)),(7,.p (.int .i64) (k.1:Int))],[]⟩) (fun k=>d.length-k.1) ⟨0,Nat.zero_le _⟩ (AC [] rfl rfl ?_ ?_) (fun k=>?_)
  ·first|exact eN|refine eM ?_
  ·first|exact eN|refine eM ?_
   rfl
  ·obtain⟨k,hk⟩:=k
   have hr:=n8 (d.take k)
   have hr2:=List.length_take_le k d
   have hsu:=fun h:k<d.length=>Y0 d h
   simp only
   repeat'(first|exact trivial|refine eS rfl ?_|refine AB ?_|refine rX [0,2,3,4,5,6,7,11,16,21,26,35,39,45] hc ?_ ?_|refine rC ?_ ?_<;>intro AA<;>try(cases AA;done))
   ·exact AA
   ·exact eV
   ·exact eV
   ·have hk2:k<d.length:=by exact eV
    have e:=hsu hk2
    rw[if_pos (by rw[beq_iff_eq];exact Int.ofNat_eq_zero.1 AA)]at e
    refine⟨⟨k+1,by omega⟩,by simp only;omega,AC [] rfl rfl ?_ ?_⟩
    ·first|exact eN|refine eM ?_
    ·simp only[e]
     first|exact eN|refine eM ?_
   ·exact eV
   ·have hk2:k<d.length:=by exact eV
    have e:=hsu hk2
    rw[if_neg (by rw[beq_iff_eq];exact fun h=>AA (Int.ofNat_eq_zero.2 h))]at e
    refine⟨⟨k+1,by omega⟩,by simp only;omega,AC [] rfl rfl ?_ ?_⟩
    ·first|exact eN|refine eM ?_
    ·simp only[e]
     first|exact eN|refine eM ?_
   ·have hk2:d.take k=d:=List.take_of_length_le (by exact eV)
    rw[hk2]at AA
    rw[if_pos (fun h=>AA (by rw[h];rfl))]at h1
    exact AG hc [.tmp 2] rfl (.inl rfl) (by simp) (by rw[h1];first|exact eR|refine Ap ?_)
   ·show d.length≤100000
    omega
   ·rename_i hro
    have hk2:d.take k=d:=List.take_of_length_le (by exact eV)
    rw[hk2]at hro
    have hro:(HG d:Int)=1:=by simpa using hro
    rw[if_neg (by omega),if_pos (Int.ofNat_lt.1 AA)]at h1
    exact AG hc [.tmp 2] rfl (.inl rfl) (by simp) (by rw[h1];first|exact eR|refine Ap ?_)
   ·rename_i hro
    have hk2:d.take k=d:=List.take_of_length_le (by exact eV)
    rw[hk2]at hro
    have hro:(HG d:Int)=1:=by simpa using hro
    rw[if_neg (by omega),if_neg (fun h=>absurd (Int.ofNat_le.1 AA) (Nat.not_le.2 h))]at h1
    exact AG hc [.tmp 2] rfl (.inl rfl) (by simp) (by rw[h1];first|exact eR|refine Ap ?_)
end
/- Functions of grammarlabref03: Above. -/
section
attribute [local go_sem] GN Dj Mh
def Kb (o:List ByteArray) (s:ByteArray):List ByteArray:=if Aa o s=true then o else o++[s]
def Kd (d:List AJ) (s:ByteArray):List ByteArray:=(d.getD (A7 d s).toNat d0).2.1
def JP (d:List AJ):Nat→Nat→List ByteArray→List ByteArray
 | 0,_,o=>o
 | n+1,i,o=>if i<o.length then JP d n (i+1) ((Kd d (o.getD i ByteArray.empty)).foldl Kb o) else o
def Ke (l:List ByteArray):List ByteArray:=l.foldl Dk []
theorem VI (l:List ByteArray):(Ke l).length≤l.length:=by
 have key:∀(l o:List ByteArray),(l.foldl Dk o).length≤o.length+l.length:=by
  intro l
  induction l with
  | nil=>intro o;simp
  | cons x l ih =>
   intro o
   have h1:=ih (Dk o x)
   have h2:=Ka o x
   simp only[List.foldl_cons,List.length_cons]
   omega
 have:=key l []
 simpa[Ke] using this
def Mk (d:List AJ) (s:ByteArray):List ByteArray:=if A7 d s<0 then [] else Ke (JP d d.length 0 [s])
def Sg (d:List AJ):Prop:=∀x∈d,∀s∈x.2.1,0≤A7 d s
theorem VJ (s:ByteArray):∀(l:List AJ) (k:Nat),CR s k l=-1∨((k:Int)≤CR s k l∧CR s k l<(k:Int)+l.length∧Ar (l.getD ((CR s k l).toNat-k) d0).1 s=true)
 | [],_=>.inl rfl
 | x :: l,k=>by
  simp only[CR]
  split
  ·rename_i h
   right
   refine⟨by omega,by simp only[List.length_cons];omega,?_⟩
   have:((k:Int).toNat-k)=0:=by omega
   rw[this]
   exact h
  ·rcases VJ s l (k+1) with h|⟨h1,h2,h3⟩
   ·exact .inl h
   ·right
    refine⟨by omega,by simp only[List.length_cons];omega,?_⟩
    have:((CR s (k+1) l).toNat-k)=((CR s (k+1) l).toNat-(k+1))+1:=by omega
    rw[this]
    exact h3
theorem DA (d:List AJ) (s:ByteArray):A7 d s<0∨(0≤A7 d s∧A7 d s<(d.length:Int)∧Ar (d.getD (A7 d s).toNat d0).1 s=true):=by
 rcases VJ s d 0 with h|⟨h1,h2,h3⟩
 ·left;show CR s 0 d<0;omega
 ·have h2:A7 d s<((0:Nat):Int)+d.length:=h2
  exact .inr ⟨h1,by omega,h3⟩
theorem Ip {a b:ByteArray}:Ar a b=true↔a.toList=b.toList:=by unfold Ar;simp
theorem Et {a b:ByteArray} (h:Ar a b=true):Ar b a=true:=Ip.2 (Ip.1 h).symm
theorem B2 {a b c:ByteArray} (h:Ar a b=true) (g:Ar b c=true):Ar a c=true:=Ip.2 ((Ip.1 h).trans (Ip.1 g))
structure Xy (d:List AJ) (o:List ByteArray):Prop where
 decl:∀s∈o,0≤A7 d s
 nd:o.Pairwise fun a b=>Ar a b=false
theorem JQ (d:List AJ):∀ {o:List ByteArray},Xy d o→(o.map fun s=>(A7 d s).toNat).Nodup
 | [],_=>by simp
 | s :: o,h=>by
  rw[List.map_cons,List.nodup_cons]
  have hnd:=List.pairwise_cons.1 h.nd
  refine⟨fun hm=>?_,JQ d ⟨fun x hx=>h.decl x (by simp[hx]),hnd.2⟩⟩
  obtain⟨x,hx,e⟩:=List.mem_map.1 hm
  have h1:=h.decl s (by simp)
  have h2:=h.decl x (by simp[hx])
  rcases DA d s with g|⟨_,_,g1⟩
  ·omega
  ·rcases DA d x with g|⟨_,_,g2⟩
   ·omega
   ·rw[e]at g2
    have:=hnd.1 x hx
    rw[B2 (Et g1) g2]at this
    cases this
theorem Xy.len {d:List AJ} {o:List ByteArray} (h:Xy d o):o.length≤d.length:=by
 have:=EI d.length (o.map fun s=>(A7 d s).toNat) (JQ d h) (fun j hj=>by
  obtain⟨s,hs,rfl⟩:=List.mem_map.1 hj
  have h1:=h.decl s hs
  rcases DA d s with g|⟨_,g,_⟩<;>omega)
 simpa using this
theorem Nz {o:List ByteArray} {s:ByteArray} (h:Aa o s=false):∀x∈o,Ar x s=false:=fun x hx=>by
 cases hh:Ar x s with
 | false=>rfl
 | true=>exact absurd h (by rw[show Aa o s=true from List.any_eq_true.2 ⟨x,hx,hh⟩];simp)
theorem kX {d:List AJ} {o:List ByteArray} (h:Xy d o) {s:ByteArray} (hs:0≤A7 d s):Xy d (Kb o s):=by
 unfold Kb
 split
 ·exact h
 ·rename_i hc
  have hc:Aa o s=false:=by simpa using hc
  refine⟨fun x hx=>?_,?_⟩
  ·rcases List.mem_append.1 hx with hx|hx
   ·exact h.decl x hx
   ·have:x=s:=by simpa using hx
    rw[this];exact hs
  ·rw[List.pairwise_append]
   refine⟨h.nd,by simp,fun a ha b hb=>?_⟩
   have:b=s:=by simpa using hb
   rw[this]
   exact Nz hc a ha
theorem Y2 {d:List AJ}:∀ {l o:List ByteArray},(∀s∈l,0≤A7 d s)→Xy d o→Xy d (l.foldl Kb o)∧o.length≤(l.foldl Kb o).length
 | [],o,_,h=>⟨h,Nat.le_refl _⟩
 | s :: l,o,hl,h=>by
  obtain⟨g1,g2⟩:=Y2 (l:=l) (fun x hx=>hl x (by simp[hx])) (kX h (hl s (by simp)))
  refine⟨g1,Nat.le_trans ?_ g2⟩
  unfold Kb
  split<;>simp
theorem Y3 {d:List AJ} (hd:Sg d) (s:ByteArray):∀x∈Kd d s,0≤A7 d x:=by
 intro x hx
 unfold Kd at hx
 by_cases h:(A7 d s).toNat<d.length
 ·exact hd _ (AD d d0 h) x hx
 ·rw[List.getD_eq_getElem?_getD,List.getElem?_eq_none (by omega)]at hx
  cases hx
def XI:Ac:={ ins:=[EK,T9],pre:=fun(d,_,_)=>Sg d∧List.length d≤256,out:=fun(d,s,_)=>[.p Bq (Mk d s)] }
theorem tC:Ai Tryz.prog 154 XI:=by
 refine AP Tryz.func154 (by kernel_rfl) rfl Tryz.ntmps154 (by decide) (by kernel_rfl) (AH [(151,GN),(131,Dj),(122,Mh)]) (AE KX (AE GB (AE PP AI))) ?_
 rintro w0 O0 ⟨d,s,u⟩ hc ⟨⟨hdl,hall⟩,-⟩ ⟨hsup,hd⟩
 have hd:d.length≤256:=hd
 simp only[XI,AM]
 repeat'(first|exact trivial|refine eS rfl ?_|refine AB ?_|refine rX [0,1,4,5,6,7,8,9,10,14,20,36,45,56] hc ?_ ?_|refine rC ?_ ?_<;>intro AA<;>try(cases AA;done))
 ·have h1:Mk d s=[]:=by unfold Mk;rw[if_pos AA]
  exact AG hc [.tmp 4] rfl (.inl rfl) (by simp) (by rw[h1];first|exact eR|refine Ap ?_)
 ·have h1:Mk d s=Ke (JP d d.length 0 [s]):=by unfold Mk;rw[if_neg (Int.not_lt.2 AA)]
  have hA0:Xy d [s]:=⟨fun x hx=>by
   have:x=s:=by simpa using hx
   rw[this];exact AA,by simp⟩
  refine AK (ι:={x:Nat×List ByteArray//x.1≤x.2.length∧Xy d x.2∧JP d (d.length-x.1) x.1 x.2=JP d d.length 0 [s]}) (fun x=>⟨[(0,.p EK d),(1,.p T9 s),(5,.sr 16 T9 0 x.1.2.length),(6,.p (.int .i64) (x.1.1:Int))],[(16,.arr 9 T9 x.1.2)]⟩) (fun x=>d.length-x.1.1) ⟨(0,[s]),by simp,hA0,rfl⟩ (AC [(16,.nm 16)] rfl rfl ?_ ?_) (fun x=>?_)
  ·first|exact eN|refine eM ?_
  ·first|exact eN|refine eM ?_
  ·obtain⟨⟨i,o⟩,hi,hA,hg⟩:=x
   simp only at hi hA hg
   have hol:=hA.len
   simp only
   repeat'(first|exact trivial|refine eS rfl ?_|refine AB ?_|refine rX [0,1,4,5,6,7,8,9,10,14,20,36,45,56] hc ?_ ?_|refine rC ?_ ?_<;>intro AA<;>try(cases AA;done))
   ·have hi2:i<o.length:=by exact eV
    have hde:=hA.decl _ (AD o ByteArray.empty hi2)
    refine⟨AA,hde,?_⟩
    rcases DA d (o.getD i ByteArray.empty) with g|⟨_,g,_⟩
    ·omega
    ·exact g
   ·have hi2:i<o.length:=by exact eV
    have hde:=hA.decl _ (AD o ByteArray.empty hi2)
    have hsd:=Y3 hsup (o.getD i ByteArray.empty)
    have hnext:JP d (d.length-(i+1)) (i+1) ((Kd d (o.getD i ByteArray.empty)).foldl Kb o)=JP d d.length 0 [s]:=by
     rw[←hg]
     obtain⟨m,hm⟩:∃m,d.length-i=m+1:=⟨d.length-i-1,by omega⟩
     have hm2:d.length-(i+1)=m:=by omega
     rw[hm,hm2]
     show _=if i<o.length then JP d m (i+1) ((Kd d (o.getD i ByteArray.empty)).foldl Kb o) else o
     rw[if_pos hi2]
    have hsl:(Kd d (o.getD i ByteArray.empty)).length≤AO:=by
     rcases DA d (o.getD i ByteArray.empty) with g|⟨_,g,_⟩
     ·omega
     ·exact(hall _ (AD d d0 (k:=(A7 d (o.getD i ByteArray.empty)).toNat) (by omega))).2.1.1
    have hsu:(List.getD d (A7 d (o.getD i ByteArray.empty)).toNat (ByteArray.empty,[],[])).2.1=Kd d (o.getD i ByteArray.empty):=rfl
    rw[hsu]
    generalize Kd d (o.getD i ByteArray.empty)=sup at *
    simp only[AO]at hsl
    refine AK (ι:={k:Nat//k≤sup.length}) (fun k=>⟨[(0,.p EK d),(1,.p T9 s),(5,.sr 16 T9 0 ((sup.take k.1).foldl Kb o).length),(6,.p (.int .i64) (i:Int)),(7,.p Bq sup),(8,.p (.int .i64) (k.1:Int))],[(16,.arr 9 T9 ((sup.take k.1).foldl Kb o))]⟩) (fun k=>sup.length-k.1) ⟨0,Nat.zero_le _⟩ (AC [(16,.nm 16)] rfl rfl ?_ ?_) (fun k=>?_)
    ·first|exact eN|refine eM ?_
     rfl
    ·first|exact eN|refine eM ?_
     rfl
    ·obtain⟨k,hk⟩:=k
     have hok:=Y2 (l:=sup.take k) (o:=o) (fun x hx=>hsd x (List.mem_of_mem_take hx)) hA
     have hok2:=hok.1.len
     have hstep:=fun h:k<sup.length=>EL Kb sup ByteArray.empty o h
     simp only
     generalize ho2:(sup.take k).foldl Kb o=o2 at *
     repeat'(first|exact trivial|refine eS rfl ?_|refine AB ?_|refine rX [0,1,4,5,6,7,8,9,10,14,20,36,45,56] hc ?_ ?_|refine rC ?_ ?_<;>intro AA<;>try(cases AA;done))
     ·exact AA
     ·refine⟨by exact eV,?_⟩
      simp only[AO]
      dsimp only[Ty.den]at *
      omega
     ·exact eV
     ·have hk2:k<sup.length:=by exact eV
      have e:=hstep hk2
      have e2:Kb o2 (sup.getD k ByteArray.empty)=o2++[sup.getD k ByteArray.empty]:=by unfold Kb;rw[if_neg (by rw[AA];simp)]
      rw[e2]at e
      refine⟨⟨k+1,by omega⟩,by simp only;omega,AC [(16,.nm 16)] rfl rfl ?_ ?_⟩
      ·simp only[e]
       first|exact eN|refine eM ?_
      ·simp only[e]
       first|exact eN|refine eM ?_
     ·exact eV
     ·have hk2:k<sup.length:=by exact eV
      have e:=hstep hk2
      have e2:Kb o2 (sup.getD k ByteArray.empty)=o2:=by unfold Kb;rw[if_pos AA]
      rw[e2]at e
      refine⟨⟨k+1,by omega⟩,by simp only;omega,AC [(16,.nm 16)] rfl rfl ?_ ?_⟩
      ·simp only[e]
       first|exact eN|refine eM ?_
      ·simp only[e]
       first|exact eN|refine eM ?_
     ·exact eV
     ·have hk2:sup.take k=sup:=List.take_of_length_le (by exact eV)
      rw[hk2]at ho2
      rw[ho2]at hnext
      have hok1:=hok.1
      have hokl:=hok.2
      refine⟨⟨(i+1,o2),by simp only;omega,hok1,hnext⟩,by simp only;omega,AC [(16,.nm 16)] rfl rfl ?_ ?_⟩
      ·first|exact eN|refine eM ?_
      ·first|exact eN|refine eM ?_
   ·have hoe:o=JP d d.length 0 [s]:=by
     rw[←hg]
     cases hm:d.length-i with
     | zero=>rfl
     | succ m =>
      show _=if i<o.length then _ else o
      rw[if_neg (by exact eV)]
    rw[←hoe]at h1
    refine AK (ι:={j:Nat//j≤o.length}) (fun j=>⟨[(0,.p EK d),(5,.sr 16 T9 0 o.length),(9,.p Bq ((o.take j.1).foldl Dk [])),(10,.p (.int .i64) (j.1:Int))],[(16,.arr 9 T9 o)]⟩) (fun j=>o.length-j.1) ⟨0,Nat.zero_le _⟩ (AC [(16,.nm 16)] rfl rfl ?_ ?_) (fun j=>?_)
    ·first|exact eN|refine eM ?_
    ·first|exact eN|refine eM ?_
     rfl
    ·obtain⟨j,hj⟩:=j
     have hsj:=fun h:j<o.length=>EL Dk o ByteArray.empty [] h
     simp only
     repeat'(first|exact trivial|refine eS rfl ?_|refine AB ?_|refine rX [0,1,4,5,6,7,8,9,10,14,20,36,45,56] hc ?_ ?_|refine rC ?_ ?_<;>intro AA<;>try(cases AA;done))
     ·refine⟨AA,?_⟩
      have:=VI (o.take j)
      have h3:=List.length_take_le j o
      unfold Ke at this
      dsimp only[Ty.den]at *
      omega
     ·exact eV
     ·have hj2:j<o.length:=by exact eV
      have e:=hsj hj2
      refine⟨⟨j+1,by omega⟩,by simp only;omega,AC [(16,.nm 16)] rfl rfl ?_ ?_⟩
      ·first|exact eN|refine eM ?_
      ·simp only[e]
       first|exact eN|refine eM ?_
     ·have hj2:o.take j=o:=List.take_of_length_le (by exact eV)
      rw[hj2]
      exact AG hc [.tmp 4] rfl (.inl rfl) (by simp) (by rw[h1];unfold Ke;first|exact eR|refine Ap ?_)
end
/- Functions of grammarlabref03: Below. -/
section
attribute [local go_sem] GN Dj Mh
def E5 (s:ByteArray) (o:List ByteArray) (x:AJ):List ByteArray:=if (Aa x.2.1 s&&!Aa o x.1)=true then o++[x.1] else o
def DM (d:List AJ):Nat→Nat→List ByteArray→List ByteArray
 | 0,_,o=>o
 | n+1,i,o=>if i<o.length then DM d n (i+1) (d.foldl (E5 (o.getD i ByteArray.empty)) o) else o
def DN (d:List AJ) (s:ByteArray):List ByteArray:=if A7 d s<0 then [] else Ke (DM d d.length 0 [s])
theorem Sh (s:ByteArray):∀(l:List AJ) (k:Nat) (x:AJ),x∈l→Ar x.1 s=true→0≤CR s k l
 | y :: l,k,x,hx,h=>by
  simp only[CR]
  split
  ·omega
  ·rename_i hc
   rcases List.mem_cons.1 hx with rfl|hx
   ·exact absurd h hc
   ·exact Sh s l (k+1) x hx h
theorem Eu {d:List AJ} {x:AJ} (hx:x∈d):0≤A7 d x.1:=Sh x.1 d 0 x hx (Es _)
theorem A03 {d:List AJ} {o:List ByteArray} (h:Xy d o) (s:ByteArray) {x:AJ} (hx:x∈d):Xy d (E5 s o x):=by
 unfold E5
 split
 ·rename_i hc
  rw[Bool.and_eq_true,Bool.not_eq_true']at hc
  have:=kX h (Eu hx)
  unfold Kb at this
  rwa [if_neg (by rw[hc.2];simp)]at this
 ·exact h
theorem Si {d:List AJ} (s:ByteArray):∀ {l:List AJ} {o:List ByteArray},(∀x∈l,x∈d)→Xy d o→Xy d (l.foldl (E5 s) o)∧o.length≤(l.foldl (E5 s) o).length
 | [],o,_,h=>⟨h,Nat.le_refl _⟩
 | x :: l,o,hl,h=>by
  obtain⟨g1,g2⟩:=Si s (l:=l) (fun y hy=>hl y (by simp[hy])) (A03 h s (hl x (by simp)))
  refine⟨g1,Nat.le_trans ?_ g2⟩
  unfold E5
  split<;>simp
theorem PS (s:ByteArray) {i:Nat}:∀ {l:List AJ} {o:List ByteArray},i<o.length→(l.foldl (E5 s) o).getD i ByteArray.empty=o.getD i ByteArray.empty
 | [],_,_=>rfl
 | x :: l,o,h=>by
  have h2:i<(E5 s o x).length∧(E5 s o x).getD i ByteArray.empty=o.getD i ByteArray.empty:=by
   unfold E5
   split
   ·refine⟨by rw[List.length_append];omega,?_⟩
    simp only[List.getD_eq_getElem?_getD]
    rw[List.getElem?_append_left h]
   ·exact⟨h,rfl⟩
  rw[List.foldl_cons,PS s h2.1,h2.2]
def Sj:Ac:={ ins:=[EK,T9],pre:=fun(d,_,_)=>List.length d≤256,out:=fun(d,s,_)=>[.p Bq (DN d s)] }
attribute [local go_sem] Sj
theorem tD:Ai Tryz.prog 130 Sj:=by
 refine AP Tryz.func130 (by kernel_rfl) rfl Tryz.ntmps130 (by decide) (by kernel_rfl) (AH [(151,GN),(131,Dj),(122,Mh)]) (AE KX (AE GB (AE PP AI))) ?_
 rintro w0 O0 ⟨d,s,u⟩ hc-hd
 have hd:d.length≤256:=hd
 simp only[Sj,AM]
 repeat'(first|exact trivial|refine eS rfl ?_|refine AB ?_|refine rX [0,1,4,5,6,7,8,9,13,19,25,47,59] hc ?_ ?_|refine rC ?_ ?_<;>intro AA<;>try(cases AA;done))
 ·have h1:DN d s=[]:=by unfold DN;rw[if_pos AA]
  exact AG hc [.tmp 4] rfl (.inl rfl) (by simp) (by rw[h1];first|exact eR|refine Ap ?_)
 ·have h1:DN d s=Ke (DM d d.length 0 [s]):=by unfold DN;rw[if_neg (Int.not_lt.2 AA)]
  have hA0:Xy d [s]:=⟨fun x hx=>by
   have:x=s:=by simpa using hx
   rw[this];exact AA,by simp⟩
  refine AK (ι:={x:Nat×List ByteArray//x.1≤x.2.length∧Xy d x.2∧DM d (d.length-x.1) x.1 x.2=DM d d.length 0 [s]}) (fun x=>⟨[(0,.p EK d),(5,.sr 15 T9 0 x.1.2.length),(6,.p (.int .i64) (x.1.1:Int))],[(15,.arr 9 T9 x.1.2)]⟩) (fun x=>d.length-x.1.1) ⟨(0,[s]),by simp,hA0,rfl⟩ (AC [(15,.nm 15)] rfl rfl ?_ ?_) (fun x=>?_)
  ·first|exact eN|refine eM ?_
  ·first|exact eN|refine eM ?_
  ·obtain⟨⟨i,o⟩,hi,hA,hg⟩:=x
   simp only at hi hA hg
   have hol:=hA.len
   simp only
   repeat'(first|exact trivial|refine eS rfl ?_|refine AB ?_|refine rX [0,1,4,5,6,7,8,9,13,19,25,47,59] hc ?_ ?_|refine rC ?_ ?_<;>intro AA<;>try(cases AA;done))
   ·have hi2:i<o.length:=by exact eV
    have hnext:DM d (d.length-(i+1)) (i+1) (d.foldl (E5 (o.getD i ByteArray.empty)) o)=DM d d.length 0 [s]:=by
     rw[←hg]
     obtain⟨m,hm⟩:∃m,d.length-i=m+1:=⟨d.length-i-1,by omega⟩
     have hm2:d.length-(i+1)=m:=by omega
     rw[hm,hm2]
     show _=if i<o.length then DM d m (i+1) (d.foldl (E5 (o.getD i ByteArray.empty)) o) else o
     rw[if_pos hi2]
    refine AK (ι:={k:Nat//k≤d.length}) (fun k=>⟨[(0,.p EK d),(5,.sr 15 T9 0 ((d.take k.1).foldl (E5 (o.getD i ByteArray.empty)) o).length),(6,.p (.int .i64) (i:Int)),(7,.p (.int .i64) (k.1:Int))],[(15,.arr 9 T9 ((d.take k.1).foldl (E5 (o.getD i ByteArray.empty)) o))]⟩) (fun k=>d.length-k.1) ⟨0,Nat.zero_le _⟩ (AC [(15,.nm 15)] rfl rfl ?_ ?_) (fun k=>?_)
    ·first|exact eN|refine eM ?_
     rfl
    ·first|exact eN|refine eM ?_
     rfl
    ·obtain⟨k,hk⟩:=k
     have hok:=Si (o.getD i ByteArray.empty) (l:=d.take k) (o:=o) (fun x hx=>List.mem_of_mem_take hx) hA
     have hok2:=hok.1.len
     have hstep:=fun h:k<d.length=>EL (E5 (o.getD i ByteArray.empty)) d d0 o h
     have hpre:((d.take k).foldl (E5 (o.getD i ByteArray.empty)) o).getD i ByteArray.empty=o.getD i ByteArray.empty:=PS _ hi2
     simp only
     generalize ho2:(d.take k).foldl (E5 (o.getD i ByteArray.empty)) o=o2 at *
     repeat'(first|exact trivial|refine eS rfl ?_|refine AB ?_|refine rX [0,1,4,5,6,7,8,9,13,19,25,47,59] hc ?_ ?_|refine rC ?_ ?_<;>intro AA<;>try(cases AA;done))
     ·have hl:=hok.2
      refine⟨AA,?_,fun _=>AA⟩
      dsimp only[Ty.den]at *
      omega
     ·refine⟨by assumption,?_⟩
      simp only[AO]
      dsimp only[Ty.den]at *
      omega
     ·exact eV
     ·have hk2:k<d.length:=by exact eV
      have e:=hstep hk2
      rw[hpre]at AA
      have e2:E5 (o.getD i ByteArray.empty) o2 (d.getD k d0)=o2++[(d.getD k d0).1]:=by
       unfold E5;rw[if_pos (by rw[Bool.and_eq_true,Bool.not_eq_true'];exact AA)]
      rw[e2]at e
      refine⟨⟨k+1,by omega⟩,by simp only;omega,AC [(15,.nm 15)] rfl rfl ?_ ?_⟩
      ·simp only[e]
       first|exact eN|refine eM ?_
      ·simp only[e]
       first|exact eN|refine eM ?_
     ·exact eV
     ·have hk2:k<d.length:=by exact eV
      have e:=hstep hk2
      rw[hpre]at AA
      have e2:E5 (o.getD i ByteArray.empty) o2 (d.getD k d0)=o2:=by
       unfold E5
       rw[if_neg]
       rw[Bool.and_eq_true,Bool.not_eq_true']
       rintro⟨h1,h2⟩
       rw[AA h1]at h2
       cases h2
      rw[e2]at e
      refine⟨⟨k+1,by omega⟩,by simp only;omega,AC [(15,.nm 15)] rfl rfl ?_ ?_⟩
      ·simp only[e]
       first|exact eN|refine eM ?_
      ·simp only[e]
       first|exact eN|refine eM ?_
     ·exact eV
     ·have hk2:d.take k=d:=List.take_of_length_le (by exact eV)
      rw[hk2]at ho2
      rw[ho2]at hnext
      have hok1:=hok.1
      have hokl:=hok.2
      refine⟨⟨(i+1,o2),by simp only;omega,hok1,hnext⟩,by simp only;omega,AC [(15,.nm 15)] rfl rfl ?_ ?_⟩
      ·first|exact eN|refine eM ?_
      ·first|exact eN|refine eM ?_
   ·have hoe:o=DM d d.length 0 [s]:=by
     rw[←hg]
     cases hm:d.length-i with
     | zero=>rfl
     | succ m =>
      show _=if i<o.length then _ else o
      rw[if_neg (by exact eV)]
    rw[←hoe]at h1
    refine AK (ι:={j:Nat//j≤o.length}) (fun j=>⟨[(0,.p EK d),(5,.sr 15 T9 0 o.length),(8,.p Bq ((o.take j.1).foldl Dk [])),(9,.p (.int .i64) (j.1:Int))],[(15,.arr 9 T9 o)]⟩) (fun j=>o.length-j.1) ⟨0,Nat.zero_le _⟩ (AC [(15,.nm 15)] rfl rfl ?_ ?_) (fun j=>?_)
    ·first|exact eN|refine eM ?_
    ·first|exact eN|refine eM ?_
     rfl
    ·obtain⟨j,hj⟩:=j
     have hsj:=fun h:j<o.length=>EL Dk o ByteArray.empty [] h
     simp only
     repeat'(first|exact trivial|refine eS rfl ?_|refine AB ?_|refine rX [0,1,4,5,6,7,8,9,13,19,25,47,59] hc ?_ ?_|refine rC ?_ ?_<;>intro AA<;>try(cases AA;done))
     ·refine⟨AA,?_⟩
      have:=VI (o.take j)
      have h3:=List.length_take_le j o
      unfold Ke at this
      dsimp only[Ty.den]at *
      omega
     ·exact eV
     ·have hj2:j<o.length:=by exact eV
      have e:=hsj hj2
      refine⟨⟨j+1,by omega⟩,by simp only;omega,AC [(15,.nm 15)] rfl rfl ?_ ?_⟩
      ·first|exact eN|refine eM ?_
      ·simp only[e]
       first|exact eN|refine eM ?_
     ·have hj2:o.take j=o:=List.take_of_length_le (by exact eV)
      rw[hj2]
      exact AG hc [.tmp 4] rfl (.inl rfl) (by simp) (by rw[h1];unfold Ke;first|exact eR|refine Ap ?_)
end
/- Functions of grammarlabref03: declared, Maximal. -/
section
attribute [local go_sem] GN Mh XI Dj
def Jn (d:List AJ) (o:List ByteArray) (x:ByteArray):List ByteArray:=if 0≤A7 d x then Dk o x else o
def CO (d:List AJ) (l:List ByteArray):List ByteArray:=l.foldl (Jn d) []
theorem IK (d:List AJ) (l:List ByteArray):(CO d l).length≤l.length:=by
 have key:∀(l o:List ByteArray),(l.foldl (Jn d) o).length≤o.length+l.length:=by
  intro l
  induction l with
  | nil=>intro o;simp
  | cons x l ih =>
   intro o
   have h1:=ih (Jn d o x)
   have h2:(Jn d o x).length≤o.length+1:=by
    unfold Jn
    split
    ·exact Ka o x
    ·omega
   simp only[List.foldl_cons,List.length_cons]
   omega
 have:=key l []
 simpa[CO] using this
def LU:Ac:={ ins:=[EK,Bq],pre:=fun(_,l,_)=>List.length l≤100000,out:=fun(d,l,_)=>[.p Bq (CO d l)] }
attribute [local go_sem] LU
theorem Y4:Ai Tryz.prog 153 LU:=by
 refine AP Tryz.func153 (by kernel_rfl) rfl Tryz.ntmps153 (by decide) (by kernel_rfl) (AH [(151,GN),(122,Mh)]) (AE KX (AE PP AI)) ?_
 rintro w0 O0 ⟨d,l,u⟩ hc-hl
 have hl:l.length≤100000:=hl
 simp only[LU,AM]
 repeat'(first|exact trivial|refine eS rfl ?_|refine AB ?_|refine rX [0,1,4,5,6,10,19] hc ?_ ?_|refine rC ?_ ?_<;>intro AA<;>try(cases AA;done))
 refine AK (ι:={k:Nat//k≤l.length}) (fun k=>⟨[(0,.p EK d),(1,.p Bq l),(5,.p Bq (CO d (l.take k.1))),(6,.p (.int .i64) (k.1:Int))],[]⟩) (fun k=>l.length-k.1) ⟨0,Nat.zero_le _⟩ (AC [] rfl rfl ?_ ?_) (fun k=>?_)
 ·first|exact eN|refine eM ?_
 ·first|exact eN|refine eM ?_
  rfl
 ·obtain⟨k,hk⟩:=k
  have hn:=IK d (l.take k)
  have hn2:=List.length_take_le k l
  have hs:=fun h:k<l.length=>EL (Jn d) l ByteArray.empty [] h
  simp only
  repeat'(first|exact trivial|refine eS rfl ?_|refine AB ?_|refine rX [0,1,4,5,6,10,19] hc ?_ ?_|refine rC ?_ ?_<;>intro AA<;>try(cases AA;done))
  ·exact AA
  ·exact⟨by assumption,by omega⟩
  ·exact eV
  ·have hk2:k<l.length:=by exact eV
   have e:CO d (l.take (k+1))=Jn d (CO d (l.take k)) (l.getD k ByteArray.empty):=hs hk2
   unfold Jn at e
   rw[if_pos AA]at e
   refine⟨⟨k+1,by omega⟩,by simp only;omega,AC [] rfl rfl ?_ ?_⟩
   ·first|exact eN|refine eM ?_
   ·simp only[e]
    first|exact eN|refine eM ?_
  ·exact eV
  ·have hk2:k<l.length:=by exact eV
   have e:CO d (l.take (k+1))=Jn d (CO d (l.take k)) (l.getD k ByteArray.empty):=hs hk2
   unfold Jn at e
   rw[if_neg (Int.not_le.2 AA)]at e
   refine⟨⟨k+1,by omega⟩,by simp only;omega,AC [] rfl rfl ?_ ?_⟩
   ·first|exact eN|refine eM ?_
   ·simp only[e]
    first|exact eN|refine eM ?_
  ·have hk2:l.take k=l:=List.take_of_length_le (by exact eV)
   rw[hk2]
   exact AG hc [.tmp 4] rfl (.inl rfl) (by simp) (by first|exact eR|refine Ap ?_)
def tE (d:List AJ) (all:List ByteArray) (i:Nat) (k:Nat):Bool:=(k:Int)==(i:Int)||!Aa (Mk d (all.getD i ByteArray.empty)) (all.getD k ByteArray.empty)
def VK (d:List AJ) (all:List ByteArray) (i n:Nat):Bool:=(List.range n).all (tE d all i)
def RE (d:List AJ) (all:List ByteArray) (n:Nat):List ByteArray:=((List.range n).filter fun i=>VK d all i all.length).map fun i=>all.getD i ByteArray.empty
def Bw (d:List AJ) (l:List ByteArray):List ByteArray:=RE d (CO d l) (CO d l).length
theorem oA (d:List AJ) (all:List ByteArray) (n:Nat):RE d all (n+1)=RE d all n++if VK d all n all.length=true then [all.getD n ByteArray.empty] else []:=by
 unfold RE
 rw[List.range_succ,List.filter_append,List.map_append]
 congr 1
 rw[List.filter_cons,List.filter_nil]
 split<;>rfl
theorem Y5 (d:List AJ) (all:List ByteArray) (n:Nat):(RE d all n).length≤n:=by
 unfold RE
 rw[List.length_map]
 exact Nat.le_trans (List.length_filter_le _ _) (by simp)
theorem cB (d:List AJ) (all:List ByteArray) (i n:Nat):VK d all i (n+1)=(VK d all i n&&tE d all i n):=by
 unfold VK
 rw[List.range_succ,List.all_append]
 simp
def HH:Ac:={ ins:=[EK,Bq],pre:=fun(d,l,_)=>Sg d∧List.length d≤256∧List.length l≤100000,out:=fun(d,l,_)=>[.p Bq (Bw d l)] }
attribute [local go_sem] HH
theorem Sk:Ai Tryz.prog 136 HH:=by
 refine AP Tryz.func136 (by kernel_rfl) rfl Tryz.ntmps136 (by decide) (by kernel_rfl) (AH [(153,LU),(154,XI),(131,Dj)]) (AE Y4 (AE tC (AE GB AI))) ?_
 rintro w0 O0 ⟨d,l,u⟩ hc-⟨hsup,hd,hl⟩
 have hd:d.length≤256:=hd
 have hl:l.length≤100000:=hl
 have hml:Bw d l=RE d (CO d l) (CO d l).length:=rfl
 have hal:=IK d l
 simp only[HH,AM]
 repeat'(first|exact trivial|refine eS rfl ?_|refine AB ?_|refine rX [0,1,4,5,6,7,8,9,10,17,29,47] hc ?_ ?_|refine rC ?_ ?_<;>intro AA<;>try(cases AA;done))
 ·exact hl
 ·rw[hml]
  generalize CO d l=all at *
  refine AK (ι:={i:Nat//i≤all.length}) (fun i=>⟨[(0,.p EK d),(5,.sr 54 T9 0 (RE d all i.1).length),(6,.p Bq all),(7,.p (.int .i64) (i.1:Int))],[(54,.arr 9 T9 (RE d all i.1))]⟩) (fun i=>all.length-i.1) ⟨0,Nat.zero_le _⟩ (AC [(54,.nil)] rfl rfl ?_ ?_) (fun i=>?_)
  ·first|exact eN|refine eM ?_
   rfl
  ·first|exact eN|refine eM ?_
   rfl
  ·obtain⟨i,hi⟩:=i
   have hgl:=Y5 d all i
   have hgs:=oA d all i
   simp only
   repeat'(first|exact trivial|refine eS rfl ?_|refine AB ?_|refine rX [0,1,4,5,6,7,8,9,10,17,29,47] hc ?_ ?_|refine rC ?_ ?_<;>intro AA<;>try(cases AA;done))
   ·exact⟨AA,hsup,hd⟩
   ·have hi2:i<all.length:=by exact eV
    refine AK (ι:={k:Nat//k≤all.length}) (fun k=>⟨[(0,.p EK d),(5,.sr 54 T9 0 (RE d all i).length),(6,.p Bq all),(7,.p (.int .i64) (i:Int)),(8,.p Bq (Mk d (all.getD i ByteArray.empty))),(9,.p .bool (VK d all i k.1)),(10,.p (.int .i64) (k.1:Int))],[(54,.arr 9 T9 (RE d all i))]⟩) (fun k=>all.length-k.1) ⟨0,Nat.zero_le _⟩ (AC [(54,.nm 54)] rfl rfl ?_ ?_) (fun k=>?_)
    ·first|exact eN|refine eM ?_
    ·first|exact eN|refine eM ?_
     rfl
    ·obtain⟨k,hk⟩:=k
     have hfs:=cB d all i k
     simp only
     repeat'(first|exact trivial|refine eS rfl ?_|refine AB ?_|refine rX [0,1,4,5,6,7,8,9,10,17,29,47] hc ?_ ?_|refine rC ?_ ?_<;>intro AA<;>try(cases AA;done))
     ·exact fun _=>AA
     ·exact eV
     ·have hk2:k<all.length:=by exact eV
      refine⟨⟨k+1,by omega⟩,by simp only;omega,AC [(54,.nm 54)] rfl rfl ?_ ?_⟩
      ·first|exact eN|refine eM ?_
      ·simp only[hfs]
       unfold tE
       first|exact eN|refine eM ?_
     ·refine⟨by assumption,?_⟩
      simp only[AO]
      omega
     ·exact eV
     ·have hk2:k=all.length:=by exact eV
      subst hk2
      rw[AA,if_pos rfl]at hgs
      refine⟨⟨i+1,by omega⟩,by simp only;omega,AC [(54,.nm 54)] rfl rfl ?_ ?_⟩
      ·simp only[hgs]
       first|exact eN|refine eM ?_
      ·simp only[hgs]
       first|exact eN|refine eM ?_
     ·exact eV
     ·have hk2:k=all.length:=by exact eV
      subst hk2
      rw[AA,if_neg (by simp),List.append_nil]at hgs
      refine⟨⟨i+1,by omega⟩,by simp only;omega,AC [(54,.nm 54)] rfl rfl ?_ ?_⟩
      ·simp only[hgs]
       first|exact eN|refine eM ?_
      ·simp only[hgs]
       first|exact eN|refine eM ?_
   ·have hi2:i=all.length:=by exact eV
    subst hi2
    refine Gb [54] ?_
    exact AG hc [.tmp 4] rfl (.inl rfl) (by simp) (by first|exact eR|refine Ap ?_)
end
/- Functions of grammarlabref02: Of. -/
section
attribute [local go_sem] FI
def oB (b:List Int) (x:Int):List Int:=b.set (x.tdiv 64).toNat (CJ .or .u64 (b.getD (x.tdiv 64).toNat 0) (WS .u64 1 (x.tmod 64)))
def qE (l:List Int):List Int:=l.foldl oB (List.replicate 64 0)
def okB (x:Int):Bool:=!(decide (x<0)||decide (4095<x))
def wN (l:List Int):List Int×Int:=if l.all okB=true then (BC (qE l),0) else ([],2)
theorem N0 (l:List Int):(qE l).length=64:=by
 have key:∀(l b:List Int),(l.foldl oB b).length=b.length:=by
  intro l
  induction l with
  | nil=>intro b;rfl
  | cons x l ih =>
   intro b
   rw[List.foldl_cons,ih]
   simp[oB]
 unfold qE
 rw[key]
 simp
def ofS:Ac:={ ins:=[Bx],pre:=fun _=>True,out:=fun(l,_)=>[.p A6 (wN l).1,.p Yp (wN l).2] }
theorem A44:Ai Tryz.prog 132 ofS:=by
 refine AP Tryz.func132 (by kernel_rfl) rfl Tryz.ntmps132 (by decide) (by kernel_rfl) (AH [(124,FI)]) (AE LS AI) ?_
 rintro w0 O0 ⟨l,u⟩ hc ⟨⟨hl,-⟩,-⟩ -
 simp only[AO]at hl
 simp only[ofS,AM]
 repeat'(first|exact trivial|refine eS rfl ?_|refine AB ?_|refine rX [0,2,3,4,5,10,24] hc ?_ ?_|refine rC ?_ ?_<;>intro AA<;>try(cases AA;done))
 ·simp only[AO];omega
 ·refine AK (ι:={k:Nat//k≤l.length∧(l.take k).all okB=true}) (fun k=>⟨[(0,.p Bx l),(4,.sr 6 Nv 0 (qE (l.take k.1)).length),(5,.p (.int .i64) (k.1:Int))],[(6,.arr 165 Nv (qE (l.take k.1)))]⟩) (fun k=>l.length-k.1) ⟨0,Nat.zero_le _,rfl⟩ (AC [(6,.nm 6)] rfl rfl ?_ ?_) (fun k=>?_)
  ·first|exact eN|refine eM ?_
   rfl
  ·first|exact eN|refine eM ?_
   rfl
  ·obtain⟨k,hk,hf⟩:=k
   have hlen:=N0 (l.take k)
   have hs:∀h:k<l.length,qE (l.take (k+1))=oB (qE (l.take k)) (l.getD k 0):=fun h=>EL oB l 0 _ h
   simp only
   repeat'(first|exact trivial|refine eS rfl ?_|refine AB ?_|refine rX [0,2,3,4,5,10,24] hc ?_ ?_|refine rC ?_ ?_<;>intro AA<;>try(cases AA;done))
   ·exact⟨AA,fun _=>AA⟩
   ·have hk2:k<l.length:=by exact eV
    have h1:wN l=([],2):=by
     unfold wN
     rw[if_neg]
     intro h
     have:=List.all_eq_true.1 h _ (AD l 0 hk2)
     unfold okB at this
     rw[Bool.not_eq_true',Bool.or_eq_false_iff,decide_eq_false_iff_not,decide_eq_false_iff_not]at this
     rcases AA with h|h
     ·exact this.1 h
     ·exact this.2 h
    exact AG hc [.tmp 2,.tmp 3] rfl (.inl rfl) (by simp) (by rw[h1];first|exact eR|refine Ap ?_)
   ·obtain⟨h0,h1⟩:=AA
    have e1:Int.tdiv (l.getD k 0) 64=l.getD k 0 / 64:=Int.tdiv_eq_ediv_of_nonneg h0
    have e2:Int.tmod (l.getD k 0) 64=l.getD k 0 % 64:=Int.tmod_eq_emod_of_nonneg h0
    rw[e1,e2,hlen]
    refine⟨?_,⟨by decide,?_,?_⟩,?_,⟨by decide,?_,?_⟩,⟨?_,?_⟩,?_,⟨by decide,?_,?_⟩,⟨?_,?_⟩,?_,?_,?_⟩<;>exact eV
   ·exact eV
   ·have hk2:k<l.length:=by exact eV
    have e:=hs hk2
    refine⟨⟨k+1,by omega,?_⟩,by simp only;omega,AC [(6,.nm 6)] rfl rfl ?_ ?_⟩
    ·rw[Io l 0 _ hk2,hf,Bool.true_and]
     unfold okB
     rw[Bool.not_eq_true',Bool.or_eq_false_iff,decide_eq_false_iff_not,decide_eq_false_iff_not]
     exact⟨Int.not_lt.2 AA.1,Int.not_lt.2 AA.2⟩
    ·simp only[e]
     first|exact eN|refine eM ?_
     rfl
    ·simp only[e]
     first|exact eN|refine eM ?_
     rw[←e,N0,N0]
   ·have hk2:l.take k=l:=List.take_of_length_le (by exact eV)
    rw[hk2]at hf ⊢
    have h1:wN l=(BC (qE l),0):=by unfold wN;rw[if_pos hf]
    have hlen2:=N0 l
    refine Gb [6] ?_
    repeat'(first|exact trivial|refine eS rfl ?_|refine AB ?_|refine rX [0,2,3,4,5,10,24] hc ?_ ?_|refine rC ?_ ?_<;>intro AA<;>try(cases AA;done))
    ·rw[hlen2];decide
    ·exact AG hc [.tmp 2,.tmp 3] rfl (.inl rfl) (by simp) (by rw[h1];first|exact eR|refine Ap ?_)
end
/- Functions of grammarlabref04: in, Subsumes. -/
section
attribute [local go_sem] L5 LT
def cC (l:List (List Int)) (b:List Int):Bool:=l.any fun x=>HB x b
def A05:Ac:={ ins:=[RC,A6],pre:=fun _=>True,out:=fun(l,b,_)=>[.p .bool (cC l b)],lend:=true }
theorem A1G:Ai Tryz.prog 133 A05:=by
 refine AP Tryz.func133 (by kernel_rfl) rfl Tryz.ntmps133 (by decide) (by kernel_rfl) (AH [(125,L5)]) (AE XF AI) ?_
 rintro w0 O0 ⟨l,n,u⟩ hc ⟨⟨hl,-⟩,-⟩ -
 simp only[AO]at hl
 simp only[A05,AM]
 repeat'(first|exact trivial|refine eS rfl ?_|refine AB ?_|refine rX [0,1,4,5,9,17] hc ?_ ?_|refine rC ?_ ?_<;>intro AA<;>try(cases AA;done))
 refine AK (ι:={k:Nat//k≤l.length∧(l.take k).any (fun x=>HB x n)=false}) (fun k=>⟨[(0,.p RC l),(1,.p A6 n),(5,.p (.int .i64) (k.1:Int))],[]⟩) (fun k=>l.length-k.1) ⟨0,by simp⟩ (AC [] rfl rfl ?_ ?_) (fun k=>?_)
 ·first|exact eN|refine eM ?_
 ·first|exact eN|refine eM ?_
 ·obtain⟨k,hk,hany⟩:=k
  repeat'(first|exact trivial|refine eS rfl ?_|refine AB ?_|refine rX [0,1,4,5,9,17] hc ?_ ?_|refine rC ?_ ?_<;>intro AA<;>try(cases AA;done))
  ·exact eV
  ·have hkl:k<l.length:=by exact eV
   have h1:cC l n=true:=GA l [] _ hkl AA
   exact AG hc [.tmp 4] rfl (.inl rfl) (by simp) (by rw[h1];first|exact eR|refine Ap ?_)
  ·exact eV
  ·have hkl:k<l.length:=by exact eV
   refine⟨⟨k+1,by exact eV,?_⟩,by simp only;exact eV,AC [] rfl rfl ?_ ?_⟩
   ·rw[LR l [] _ hkl,hany];exact AA
   ·first|exact eN|refine eM ?_
   ·first|exact eN|refine eM ?_
  ·have hk:l.take k=l:=List.take_of_length_le (by exact eV)
   rw[hk]at hany
   have h1:cC l n=false:=hany
   exact AG hc [.tmp 4] rfl (.inl rfl) (by simp) (by rw[h1];first|exact eR|refine Ap ?_)
abbrev AQ:=ByteArray×List Int
abbrev c0:AQ:=(ByteArray.empty,[])
def L7 (l:List AQ) (i j:Int):Bool:=El (l.getD j.toNat c0).2 (l.getD i.toNat c0).2
def VL:Ac:={ ins:=[Im,T3,T3],pre:=fun(l,i,j,_)=>((0:Int)≤i∧i<(List.length l:Int))∧((0:Int)≤j∧j<(List.length l:Int))∧(∀x∈(l:List AQ),x.2.length≤100000),out:=fun(l,i,j,_)=>[.p .bool (L7 l i j)],lend:=true }
theorem kY:Ai Tryz.prog 94 VL:=by
 refine AP Tryz.func94 (by kernel_rfl) rfl Tryz.ntmps94 (by decide) (by kernel_rfl) (AH [(138,LT)]) (AE VG AI) ?_
 rintro w0 O0 ⟨l,i,j,u⟩ hc-⟨hi,hj,hx⟩
 simp only[VL,AM]
 repeat'(first|exact trivial|refine eS rfl ?_|refine AB ?_|refine rX [0,1,2,6] hc ?_ ?_|refine rC ?_ ?_<;>intro AA<;>try(cases AA;done))
 ·exact⟨hj,hi,hx _ (AD (l:List AQ) c0 (by exact eV))⟩
 ·exact AG hc [.tmp 6] rfl (.inl rfl) (by simp) (by unfold L7;first|exact eR|refine Ap ?_)
end
/- Functions of grammarlabref05: number. -/
section
attribute [local go_sem] L5
def PT (s:ByteArray):Nat→List AQ→Int
 | _,[]=>-1
 | k,x :: l=>if Ar x.1 s=true then (k:Int) else PT s (k+1) l
def Cv (l:List AQ) (s:ByteArray):Int:=PT s 0 l
theorem VM (s:ByteArray) (l:List AQ) {k:Nat} (h:k<l.length):PT s k (l.drop k)=if Ar (l.getD k c0).1 s=true then (k:Int) else PT s (k+1) (l.drop (k+1)):=by
 rw[List.drop_eq_getElem_cons h]
 have e:l.getD k c0=l[k]:=by simp[List.getD_eq_getElem?_getD,h]
 rw[e]
 rfl
def LV:Ac:={ ins:=[Im,T9],pre:=fun _=>True,out:=fun(l,s,_)=>[.p T3 (Cv l s)],lend:=true }
theorem VN:Ai Tryz.prog 96 LV:=by
 refine AP Tryz.func96 (by kernel_rfl) rfl Tryz.ntmps96 (by decide) (by kernel_rfl) (AH []) AI ?_
 rintro w0 O0 ⟨l,s,u⟩ hc ⟨⟨hl,-⟩,-⟩ -
 simp only[AO]at hl
 simp only[LV,AM]
 repeat'(first|exact trivial|refine eS rfl ?_|refine AB ?_|refine rX [0,1,4,5,9,18] hc ?_ ?_|refine rC ?_ ?_<;>intro AA<;>try(cases AA;done))
 refine AK (ι:={k:Nat//k≤l.length∧PT s k (l.drop k)=Cv l s}) (fun k=>⟨[(0,.p Im l),(1,.p T9 s),(5,.p (.int .i64) (k.1:Int))],[]⟩) (fun k=>l.length-k.1) ⟨0,Nat.zero_le _,rfl⟩ (AC [] rfl rfl ?_ ?_) (fun k=>?_)
 ·first|exact eN|refine eM ?_
 ·first|exact eN|refine eM ?_
 ·obtain⟨k,hk,hf⟩:=k
  simp only
  repeat'(first|exact trivial|refine eS rfl ?_|refine AB ?_|refine rX [0,1,4,5,9,18] hc ?_ ?_|refine rC ?_ ?_<;>intro AA<;>try(cases AA;done))
  ·exact AA
  ·have hk2:k<l.length:=by exact eV
   rw[VM s l hk2,if_pos AA]at hf
   exact AG hc [.tmp 4] rfl (.inl rfl) (by simp) (by rw[←hf];first|exact eR|refine Ap ?_)
  ·exact eV
  ·have hk2:k<l.length:=by exact eV
   rw[VM s l hk2,if_neg (by rw[AA];simp)]at hf
   refine⟨⟨k+1,by omega,hf⟩,by simp only;omega,AC [] rfl rfl ?_ ?_⟩
   ·first|exact eN|refine eM ?_
   ·first|exact eN|refine eM ?_
  ·have hk2:l.drop k=[]:=List.drop_eq_nil_of_le (by exact eV)
   rw[hk2]at hf
   exact AG hc [.tmp 4] rfl (.inl rfl) (by simp) (by rw[←hf];first|exact eR|refine Ap ?_;rfl)
end
/- Functions of grammarlabref04: Find. -/
section
attribute [local go_sem] L5 FI
def Sl (s:List Int):Nat→List AQ→Int
 | _,[]=>-1
 | k,x :: l=>if HB x.2 s=true then (k:Int) else Sl s (k+1) l
def XJ (l:List AQ) (b:List Int):Int:=Sl (BC b) 0 l
theorem Sm (s:List Int) (l:List AQ) {k:Nat} (h:k<l.length):Sl s k (l.drop k)=if HB (l.getD k c0).2 s=true then (k:Int) else Sl s (k+1) (l.drop (k+1)):=by
 rw[List.drop_eq_getElem_cons h]
 have e:l.getD k c0=l[k]:=by simp[List.getD_eq_getElem?_getD,h]
 rw[e]
 rfl
def XK:Ac:={ ins:=[Im,A6],pre:=fun(_,b,_)=>List.length b≤100000,out:=fun(l,b,_)=>[.p T3 (XJ l b)],lend:=true }
theorem tF:Ai Tryz.prog 87 XK:=by
 refine AP Tryz.func87 (by kernel_rfl) rfl Tryz.ntmps87 (by decide) (by kernel_rfl) (AH [(124,FI),(125,L5)]) (AE LS (AE XF AI)) ?_
 rintro w0 O0 ⟨l,b,u⟩ hc ⟨⟨hl,-⟩,-⟩ hb
 simp only[AO]at hl
 simp only[XK,AM]
 repeat'(first|exact trivial|refine eS rfl ?_|refine AB ?_|refine rX [0,1,4,5,6,12,21] hc ?_ ?_|refine rC ?_ ?_<;>intro AA<;>try(cases AA;done))
 ·exact hb
 ·have hcg:XJ l b=Sl (BC b) 0 l:=rfl
  rw[hcg]
  generalize BC b=s at *
  refine AK (ι:={k:Nat//k≤l.length∧Sl s k (l.drop k)=Sl s 0 l}) (fun k=>⟨[(0,.p Im l),(5,.p A6 s),(6,.p (.int .i64) (k.1:Int))],[]⟩) (fun k=>l.length-k.1) ⟨0,Nat.zero_le _,rfl⟩ (AC [] rfl rfl ?_ ?_) (fun k=>?_)
  ·first|exact eN|refine eM ?_
  ·first|exact eN|refine eM ?_
  ·obtain⟨k,hk,hf⟩:=k
   simp only
   repeat'(first|exact trivial|refine eS rfl ?_|refine AB ?_|refine rX [0,1,4,5,6,12,21] hc ?_ ?_|refine rC ?_ ?_<;>intro AA<;>try(cases AA;done))
   ·exact AA
   ·have hk2:k<l.length:=by exact eV
    rw[Sm s l hk2,if_pos AA]at hf
    exact AG hc [.tmp 4] rfl (.inl rfl) (by simp) (by rw[←hf];first|exact eR|refine Ap ?_)
   ·exact eV
   ·have hk2:k<l.length:=by exact eV
    rw[Sm s l hk2,if_neg (by rw[AA];simp)]at hf
    refine⟨⟨k+1,by omega,hf⟩,by simp only;omega,AC [] rfl rfl ?_ ?_⟩
    ·first|exact eN|refine eM ?_
    ·first|exact eN|refine eM ?_
   ·have hk2:l.drop k=[]:=List.drop_eq_nil_of_le (by exact eV)
    rw[hk2]at hf
    exact AG hc [.tmp 4] rfl (.inl rfl) (by simp) (by rw[←hf];first|exact eR|refine Ap ?_;rfl)
end
/- Functions of grammarlabref05: value. -/
section
attribute [local go_sem] L5
def Y6 (s:ByteArray):List (ByteArray×ByteArray)→ByteArray×Bool
 | []=>(ByteArray.empty,false)
 | x :: l=>if Ar x.1 s=true then (x.2,true) else Y6 s l
def Fj (x:AJ) (s:ByteArray):ByteArray×Bool:=Y6 s x.2.2
theorem VO (s:ByteArray) (l:List (ByteArray×ByteArray)) {k:Nat} (h:k<l.length):Y6 s (l.drop k)=if Ar (l.getD k (ByteArray.empty,ByteArray.empty)).1 s=true then ((l.getD k (ByteArray.empty,ByteArray.empty)).2,true) else Y6 s (l.drop (k+1)):=by
 rw[List.drop_eq_getElem_cons h]
 have e:l.getD k (ByteArray.empty,ByteArray.empty)=l[k]:=by simp[List.getD_eq_getElem?_getD,h]
 rw[e]
 rfl
def PU:Ac:={ ins:=[nU,T9],pre:=fun _=>True,out:=fun(x,s,_)=>[.p T9 (Fj x s).1,.p .bool (Fj x s).2],lend:=true }
theorem Y7:Ai Tryz.prog 123 PU:=by
 refine AP Tryz.func123 (by kernel_rfl) rfl Tryz.ntmps123 (by decide) (by kernel_rfl) (AH []) AI ?_
 rintro w0 O0 ⟨⟨nm,sup,fe⟩,s,u⟩ hc ⟨⟨-,-,hfe,-⟩,-⟩ -
 simp only[AO]at hfe
 simp only[PU,AM]
 repeat'(first|exact trivial|refine eS rfl ?_|refine AB ?_|refine rX [0,1,2,4,5,6,11,21] hc ?_ ?_|refine rC ?_ ?_<;>intro AA<;>try(cases AA;done))
 have hz:({ data:=#[] }:ByteArray).size≤AO:=by decide
 rw[if_pos hz]
 refine AK (ι:={k:Nat//k≤fe.length∧Y6 s (fe.drop k)=Fj (nm,sup,fe) s}) (fun k=>⟨[(1,.p T9 s),(2,.bp 2 [] 0),(6,.p (.int .i64) (k.1:Int))],[(2,.box 119 true [.p T9 nm,.p Bq sup,.p Yr fe])]⟩) (fun k=>fe.length-k.1) ⟨0,Nat.zero_le _,rfl⟩ (AC [(2,.nm 2)] rfl rfl ?_ ?_) (fun k=>?_)
 ·first|exact eN|refine eM ?_
 ·first|exact eN|refine eM ?_
 ·obtain⟨k,hk,hf⟩:=k
  simp only
  repeat'(first|exact trivial|refine eS rfl ?_|refine AB ?_|refine rX [0,1,2,4,5,6,11,21] hc ?_ ?_|refine rC ?_ ?_<;>intro AA<;>try(cases AA;done))
  ·exact AA
  ·assumption
  ·have hk2:k<fe.length:=by exact eV
   rw[VO s fe hk2,if_pos AA]at hf
   exact AG hc [.tmp 4,.tmp 5] rfl (.inl rfl) (by simp) (by rw[←hf];first|exact eR|refine Ap ?_)
  ·exact eV
  ·have hk2:k<fe.length:=by exact eV
   rw[VO s fe hk2,if_neg (by rw[AA];simp)]at hf
   refine⟨⟨k+1,by omega,hf⟩,by simp only;omega,AC [(2,.nm 2)] rfl rfl ?_ ?_⟩
   ·first|exact eN|refine eM ?_
   ·first|exact eN|refine eM ?_
  ·have hk2:fe.drop k=[]:=List.drop_eq_nil_of_le (by exact eV)
   rw[hk2]at hf
   rw[if_pos hz]
   exact AG hc [.tmp 4,.tmp 5] rfl (.inl rfl) (by simp) (by rw[←hf];first|exact eR|refine Ap ?_;exact⟨rfl,rfl⟩)
end
/- Functions of grammarlabref04: before. -/
section
attribute [local go_sem] XG
def FK (a b:AQ):Bool:=decide (((HC b.2).length:Int)<((HC a.2).length:Int))||((HC a.2).length:Int)==((HC b.2).length:Int)&&GT a.1 b.1
def RW:Ac:={ ins:=[XA,XA],pre:=fun(a,b,_)=>List.length (a:AQ).2≤100000∧List.length (b:AQ).2≤100000,out:=fun(a,b,_)=>[.p .bool (FK a b)],lend:=true }
theorem oC:Ai Tryz.prog 93 RW:=by
 refine AP Tryz.func93 (by kernel_rfl) rfl Tryz.ntmps93 (by decide) (by kernel_rfl) (AH [(137,XG)]) (AE s8 AI) ?_
 rintro w0 O0 ⟨⟨an,ac⟩,⟨bn,bc⟩,u⟩ hc-⟨ha,hb⟩
 simp only[RW,AM]
 repeat'(first|exact trivial|refine eS rfl ?_|refine AB ?_|refine rX [0,1,2,3,4,5,6] hc ?_ ?_|refine rC ?_ ?_<;>intro AA<;>try(cases AA;done))
 ·exact ha
 ·exact hb
 ·exact AG hc [.tmp 4] rfl (.inl rfl) (by simp) (by unfold FK;first|exact eR|refine Ap ?_)
end
/- Functions of grammarlabref04: code. -/
section
attribute [local go_sem] Sj Dj ofS
def Ml (low all:List ByteArray) (n:Nat):List Int:=((List.range n).filter fun(i:Nat)=>Aa low (all.getD i ByteArray.empty)).map fun(i:Nat)=>(i:Int)
theorem oD (low all:List ByteArray) (n:Nat):Ml low all (n+1)=Ml low all n++if Aa low (all.getD n ByteArray.empty)=true then [(n:Int)] else []:=by
 unfold Ml
 rw[List.range_succ,List.filter_append,List.map_append]
 congr 1
 rw[List.filter_cons,List.filter_nil]
 split<;>rfl
theorem tG (low all:List ByteArray) (n:Nat):(Ml low all n).length≤n:=by
 unfold Ml
 rw[List.length_map]
 exact Nat.le_trans (List.length_filter_le _ _) (by simp)
def GV (d:List AJ) (all:List ByteArray) (s:ByteArray):List Int:=(wN (Ml (DN d s) all all.length)).1
def kZ:Ac:={ ins:=[EK,Bq,T9],pre:=fun(d,l,_,_)=>List.length d≤256∧List.length l≤100000,out:=fun(d,l,s,_)=>[.p A6 (GV d l s)] }
theorem A06:Ai Tryz.prog 90 kZ:=by
 refine AP Tryz.func90 (by kernel_rfl) rfl Tryz.ntmps90 (by decide) (by kernel_rfl) (AH [(130,Sj),(131,Dj),(132,ofS)]) (AE tD (AE GB (AE A44 AI))) ?_
 rintro w0 O0 ⟨d,l,s,u⟩ hc-⟨hd,hl⟩
 have hl:l.length≤100000:=hl
 have hcf:GV d l s=(wN (Ml (DN d s) l l.length)).1:=rfl
 simp only[kZ,AM]
 repeat'(first|exact trivial|refine eS rfl ?_|refine AB ?_|refine rX [0,1,2,6,7,8,9,10,18,26] hc ?_ ?_|refine rC ?_ ?_<;>intro AA<;>try(cases AA;done))
 ·exact hd
 ·rw[hcf]
  generalize DN d s=low at *
  refine AK (ι:={n:Nat//n≤l.length}) (fun n=>⟨[(0,.p EK d),(1,.p Bq l),(2,.p T9 s),(7,.p Bq low),(8,.sr 30 T3 0 (Ml low l n.1).length),(9,.p (.int .i64) (n.1:Int))],[(30,.arr 3 T3 (Ml low l n.1))]⟩) (fun n=>l.length-n.1) ⟨0,Nat.zero_le _⟩ (AC [(30,.nil)] rfl rfl ?_ ?_) (fun n=>?_)
  ·first|exact eN|refine eM ?_
   rfl
  ·first|exact eN|refine eM ?_
   rfl
  ·obtain⟨n,hn⟩:=n
   have hz:=tG low l n
   have hs:=oD low l n
   simp only
   repeat'(first|exact trivial|refine eS rfl ?_|refine AB ?_|refine rX [0,1,2,6,7,8,9,10,18,26] hc ?_ ?_|refine rC ?_ ?_<;>intro AA<;>try(cases AA;done))
   ·exact AA
   ·rw[AA,if_pos rfl]at hs
    simp only[AO]
    dsimp only[Ty.den]at *
    omega
   ·exact eV
   ·have hn2:n<l.length:=by exact eV
    rw[AA,if_pos rfl]at hs
    refine⟨⟨n+1,by omega⟩,by simp only;omega,AC [(30,.nm 30)] rfl rfl ?_ ?_⟩
    ·simp only[hs]
     first|exact eN|refine eM ?_
    ·simp only[hs]
     first|exact eN|refine eM ?_
   ·exact eV
   ·have hn2:n<l.length:=by exact eV
    rw[AA,if_neg (by simp),List.append_nil]at hs
    refine⟨⟨n+1,by omega⟩,by simp only;omega,AC [(30,.nm 30)] rfl rfl ?_ ?_⟩
    ·simp only[hs]
     first|exact eN|refine eM ?_
    ·simp only[hs]
     first|exact eN|refine eM ?_
   ·have hn2:n=l.length:=by exact eV
    subst hn2
    refine Gb [30] ?_
    repeat'(first|exact trivial|refine eS rfl ?_|refine AB ?_|refine rX [0,1,2,6,7,8,9,10,18,26] hc ?_ ?_|refine rC ?_ ?_<;>intro AA<;>try(cases AA;done))
    exact AG hc [.tmp 6] rfl (.inl rfl) (by simp) (by first|exact eR|refine Ap ?_)
end
/- Functions of grammarlabref05: feats. -/
section
attribute [local go_sem] Mh
def OA (o:List ByteArray) (f:ByteArray×ByteArray):List ByteArray:=Dk o f.1
def PW (o:List ByteArray) (x:AJ):List ByteArray:=x.2.2.foldl OA o
def DP (d:List AJ):List ByteArray:=d.foldl PW []
theorem VP (l:List (ByteArray×ByteArray)):∀o:List ByteArray,(l.foldl OA o).length≤o.length+l.length:=by
 induction l with
 | nil=>intro o;simp
 | cons x l ih =>
  intro o
  have h1:=ih (OA o x)
  have h2:(OA o x).length≤o.length+1:=Ka o x.1
  simp only[List.foldl_cons,List.length_cons]
  omega
theorem cE {d:List AJ} (h:∀x∈d,x.2.2.length≤256):∀(l:List AJ),(∀x∈l,x∈d)→∀o:List ByteArray,(l.foldl PW o).length≤o.length+256*l.length:=by
 intro l
 induction l with
 | nil=>intro _ o;simp
 | cons x l ih =>
  intro hl o
  have h1:=ih (fun y hy=>hl y (by simp[hy])) (PW o x)
  have h2:=VP x.2.2 o
  have h3:=h x (hl x (by simp))
  have h4:(PW o x).length=(x.2.2.foldl OA o).length:=rfl
  simp only[List.foldl_cons,List.length_cons]
  omega
def Kg:Ac:={ ins:=[EK],pre:=fun(d,_)=>List.length d≤256∧(∀x∈(d:List AJ),x.2.2.length≤256),out:=fun(d,_)=>[.p Bq (DP d)] }
theorem Sn:Ai Tryz.prog 85 Kg:=by
 refine AP Tryz.func85 (by kernel_rfl) rfl Tryz.ntmps85 (by decide) (by kernel_rfl) (AH [(122,Mh)]) (AE PP AI) ?_
 rintro w0 O0 ⟨d,u⟩ hc-⟨hd,hx⟩
 have hd:d.length≤256:=hd
 simp only[Kg,AM]
 repeat'(first|exact trivial|refine eS rfl ?_|refine AB ?_|refine rX [0,2,3,4,5,9,19] hc ?_ ?_|refine rC ?_ ?_<;>intro AA<;>try(cases AA;done))
 refine AK (ι:={i:Nat//i≤d.length}) (fun i=>⟨[(0,.p EK d),(3,.p Bq (DP (d.take i.1))),(4,.p (.int .i64) (i.1:Int))],[]⟩) (fun i=>d.length-i.1) ⟨0,Nat.zero_le _⟩ (AC [] rfl rfl ?_ ?_) (fun i=>?_)
 ·first|exact eN|refine eM ?_
 ·first|exact eN|refine eM ?_
  rfl
 ·obtain⟨i,hi⟩:=i
  have hlen:=cE hx (d.take i) (fun x h=>List.mem_of_mem_take h) []
  have htl:=List.length_take_le i d
  have hs:=fun h:i<d.length=>EL PW d d0 [] h
  have hfe:∀e,DP e=e.foldl PW []:=fun _=>rfl
  simp only
  repeat'(first|exact trivial|refine eS rfl ?_|refine AB ?_|refine rX [0,2,3,4,5,9,19] hc ?_ ?_|refine rC ?_ ?_<;>intro AA<;>try(cases AA;done))
  ·have hi2:i<d.length:=by exact eV
   have hxi:=hx _ (AD d d0 hi2)
   have hs:=hs hi2
   rw[←hfe,←hfe]at hs
   rw[←hfe]at hlen
   generalize DP (d.take i)=o at *
   refine AK (ι:={k:Nat//k≤(d.getD i d0).2.2.length}) (fun k=>⟨[(0,.p EK d),(3,.p Bq (((d.getD i d0).2.2.take k.1).foldl OA o)),(4,.p (.int .i64) (i:Int)),(5,.p (.int .i64) (k.1:Int))],[]⟩) (fun k=>(d.getD i d0).2.2.length-k.1) ⟨0,Nat.zero_le _⟩ (AC [] rfl rfl ?_ ?_) (fun k=>?_)
   ·first|exact eN|refine eM ?_
   ·first|exact eN|refine eM ?_
    rfl
   ·obtain⟨k,hk⟩:=k
    have hk':k≤(d.getD i d0).2.2.length:=hk
    have hfl:=VP ((d.getD i d0).2.2.take k) o
    have hkl:=List.length_take_le k (d.getD i d0).2.2
    have hss:=fun h:k<(d.getD i d0).2.2.length=>EL OA (d.getD i d0).2.2 (ByteArray.empty,ByteArray.empty) o h
    simp only
    repeat'(first|exact trivial|refine eS rfl ?_|refine AB ?_|refine rX [0,2,3,4,5,9,19] hc ?_ ?_|refine rC ?_ ?_<;>intro AA<;>try(cases AA;done))
    ·assumption
    ·refine⟨by assumption,AA,?_⟩
     simp only[List.length_nil]at hlen
     dsimp only[Ty.den]at *
     omega
    ·have h1:(k:Int)<((d.getD i d0).2.2.length:Int):=AA
     exact eV
    ·have hk2:k<(d.getD i d0).2.2.length:=Int.ofNat_lt.1 AA
     have e:=hss hk2
     refine⟨⟨k+1,hk2⟩,by simp only;omega,AC [] rfl rfl ?_ ?_⟩
     ·first|exact eN|refine eM ?_
     ·simp only[e]
      unfold OA
      first|exact eN|refine eM ?_
    ·have:=hd
     exact eV
    ·have hk2:(d.getD i d0).2.2.take k=(d.getD i d0).2.2:=List.take_of_length_le (Int.ofNat_le.1 AA)
     have e:DP (d.take (i+1))=((d.getD i d0).2.2.take k).foldl OA o:=by rw[hk2];exact hs
     refine⟨⟨i+1,hi2⟩,by simp only;omega,AC [] rfl rfl ?_ ?_⟩
     ·first|exact eN|refine eM ?_
     ·simp only[e]
      first|exact eN|refine eM ?_
  ·have hk2:d.take i=d:=List.take_of_length_le (by exact eV)
   rw[hk2]
   exact AG hc [.tmp 2] rfl (.inl rfl) (by simp) (by first|exact eR|refine Ap ?_)
end
/- What a hierarchy that passes grammarlabref03.Check is: all supertypes are declared. -/
section
theorem VQ {d:List AJ} {l:List ByteArray}:∀ {r:List ByteArray} {k:Nat},RD d l k r=0→∀s∈r,0≤A7 d s
 | [],_,_,s,hs=>by cases hs
 | x :: r,k,h,s,hs=>by
  simp only[RD]at h
  split at h
  ·cases h
  ·rename_i h1
   split at h
   ·cases h
   ·rcases List.mem_cons.1 hs with rfl|hs
    ·omega
    ·exact VQ h s hs
theorem OB {d:List AJ}:∀ {l:List AJ},JM d l=0→∀x∈l,∀s∈x.2.1,0≤A7 d s
 | [],_,x,hx=>by cases hx
 | y :: l,h,x,hx=>by
  simp only[JM]at h
  split at h
  ·rename_i h1;exact absurd h h1
  ·rename_i h1
   rcases List.mem_cons.1 hx with rfl|hx
   ·exact VQ (Classical.byContradiction h1)
   ·exact OB h x hx
theorem tH {d:List AJ} (h:JN d=0):Sg d:=OB h
theorem A3 {d:List AJ} (h:BE d=0):Sg d∧d.length≤256∧HG d=1∧DL d=0∧d.length≤(BZ d).length:=by
 unfold BE at h
 split at h
 ·rename_i h1;exact absurd h h1
 ·rename_i h1
  split at h
  ·rename_i h2;exact absurd h h2
  ·rename_i h2
   split at h
   ·rename_i h3;exact absurd h h3
   ·rename_i h3
    split at h
    ·cases h
    ·rename_i h4
     split at h
     ·cases h
     ·rename_i h5
      exact⟨tH (Classical.byContradiction h3),QZ (Classical.byContradiction h1),Classical.byContradiction h4,Classical.byContradiction h2,by omega⟩
end
/- Functions of grammarlabref04: family. -/
section
attribute [local go_sem] A05 Yy
def GP (l:List (List Int)) (i k:Nat):List (List Int) :=
 if (decide (0<((FT (l.getD i []) (l.getD k [])).length:Int))&&!cC l (FT (l.getD i []) (l.getD k [])))=true then l++[FT (l.getD i []) (l.getD k [])] else l
def GQ (i:Nat):Nat→Nat→List (List Int)→List (List Int)
 | 0,_,l=>l
 | n+1,k,l=>if l.length≤256 then GQ i n (k+1) (GP l i k) else l
def IL:Nat→Nat→List (List Int)→List (List Int)
 | 0,_,l=>l
 | n+1,i,l=>if i<l.length∧l.length≤256 then IL n (i+1) (GQ i i 0 l) else l
def A0 (c:List (List Int)):List (List Int):=IL 257 0 c
theorem Y8 (a b:List Int):(FT a b).length≤a.length:=by
 unfold FT BC
 have:=D5 .and a b a.length
 rw[List.length_take]
 omega
structure A17 (l:List (List Int)):Prop where
 len:l.length≤257
 wid:∀c∈l,c.length≤64
theorem Kh {l:List (List Int)} (h:∀c∈l,c.length≤64) (k:Nat):(l.getD k []).length≤64:=by
 rw[List.getD_eq_getElem?_getD]
 cases hh:l[k]? with
 | none=>simp
 | some x=>exact h x (List.mem_of_getElem? hh)
theorem Y9 {l:List (List Int)} (h:∀c∈l,c.length≤64) (i k:Nat):∀c∈GP l i k,c.length≤64:=by
 unfold GP
 split
 ·intro c hc
  rcases List.mem_append.1 hc with hc|hc
  ·exact h c hc
  ·have:c=FT (l.getD i []) (l.getD k []):=by simpa using hc
   rw[this]
   exact Nat.le_trans (Y8 _ _) (Kh h i)
 ·exact h
theorem tI (l:List (List Int)) (i k:Nat):l.length≤(GP l i k).length∧(GP l i k).length≤l.length+1:=by
 unfold GP
 split
 ·simp
 ·exact⟨Nat.le_refl _,Nat.le_succ _⟩
def RY:Ac:={ ins:=[RC],pre:=fun(c,_)=>List.length c≤256∧∀x∈(c:List (List Int)),x.length≤64,out:=fun(c,_)=>[.p RC (A0 c)] }
theorem oE:Ai Tryz.prog 91 RY:=by
 refine AP Tryz.func91 (by kernel_rfl) rfl Tryz.ntmps91 (by decide) (by kernel_rfl) (AH [(100,Yy),(133,A05)]) (AE b9 (AE A1G AI)) ?_
 rintro w0 O0 ⟨c,u⟩ hc-⟨hcl,hcw⟩
 have hcl:c.length≤256:=hcl
 simp only[RY,AM]
 repeat'(first|exact trivial|refine eS rfl ?_|refine AB ?_|refine rX [0,2,3,4,5,6,18,28,48] hc ?_ ?_|refine rC ?_ ?_<;>intro AA<;>try(cases AA;done))
 ·simp only[AO];dsimp only[Ty.den]at *;omega
 ·refine AK (ι:={x:Nat×List (List Int)//x.1≤256∧A17 x.2∧IL (257-x.1) x.1 x.2=A0 c}) (fun x=>⟨[(3,.sr 7 A6 0 x.1.2.length),(4,.p (.int .i64) (x.1.1:Int))],[(7,.arr 107 A6 x.1.2)]⟩) (fun x=>257-x.1.1) ⟨(0,c),by simp,⟨by simp only;omega,hcw⟩,rfl⟩ (AC [(7,.nm 7)] rfl rfl ?_ ?_) (fun x=>?_)
  ·first|exact eN|refine eM ?_
  ·first|exact eN|refine eM ?_
  ·obtain⟨⟨i,l⟩,hi,⟨hll,hlw⟩,hg⟩:=x
   simp only at hi hll hlw hg
   simp only
   repeat'(first|exact trivial|refine eS rfl ?_|refine AB ?_|refine rX [0,2,3,4,5,6,18,28,48] hc ?_ ?_|refine rC ?_ ?_<;>intro AA<;>try(cases AA;done))
   ·have hi2:i<l.length:=by omega
    have hl2:l.length≤256:=by omega
    have hg2:IL (256-i) (i+1) (GQ i i 0 l)=A0 c:=by
     have e:257-i=(256-i)+1:=by omega
     rw[←hg,e]
     show _=if i<l.length∧l.length≤256 then IL (256-i) (i+1) (GQ i i 0 l) else l
     rw[if_pos ⟨hi2,hl2⟩]
    refine AK (ι:={y:Nat×List (List Int)//y.1≤i∧A17 y.2∧l.length≤y.2.length∧GQ i (i-y.1) y.1 y.2=GQ i i 0 l}) (fun y=>⟨[(3,.sr 7 A6 0 y.1.2.length),(4,.p (.int .i64) (i:Int)),(5,.p (.int .i64) (y.1.1:Int))],[(7,.arr 107 A6 y.1.2)]⟩) (fun y=>i-y.1.1) ⟨(0,l),by simp,⟨hll,hlw⟩,Nat.le_refl _,rfl⟩ (AC [(7,.nm 7)] rfl rfl ?_ ?_) (fun y=>?_)
    ·first|exact eN|refine eM ?_
    ·first|exact eN|refine eM ?_
    ·obtain⟨⟨k,m⟩,hk,⟨hml,hmw⟩,hlm,hf⟩:=y
     simp only at hk hml hmw hlm hf
     simp only
     repeat'(first|exact trivial|refine eS rfl ?_|refine AB ?_|refine rX [0,2,3,4,5,6,18,28,48] hc ?_ ?_|refine rC ?_ ?_<;>intro AA<;>try(cases AA;done))
     ·exact⟨by exact eV,by exact eV,Nat.le_trans (Kh hmw i) (by decide)⟩
     ·simp only[AO];omega
     ·omega
     ·have e:GP m i k=m++[FT (m.getD i []) (m.getD k [])]:=by
       unfold GP
       rw[if_pos]
       rw[Bool.and_eq_true,decide_eq_true_eq,Bool.not_eq_true']
       exact AA
      have hw:=Y9 hmw i k
      have h2:=tI m i k
      refine⟨⟨(k+1,GP m i k),by simp only;omega,⟨by simp only;omega,hw⟩,by simp only;omega,?_⟩,by simp only;omega,AC [(7,.nm 7)] rfl rfl ?_ ?_⟩
      ·simp only
       rw[←hf,show i-k=(i-(k+1))+1 by omega]
       show _=if m.length≤256 then GQ i (i-(k+1)) (k+1) (GP m i k) else m
       rw[if_pos (by omega)]
      ·simp only[e]
       first|exact eN|refine eM ?_
      ·simp only[e]
       first|exact eN|refine eM ?_
     ·omega
     ·have e:GP m i k=m:=by
       unfold GP
       rw[if_neg]
       rw[Bool.and_eq_true,decide_eq_true_eq,Bool.not_eq_true']
       intro h
       rw[AA h.1]at h
       exact absurd h.2 (by simp)
      refine⟨⟨(k+1,m),by simp only;omega,⟨hml,hmw⟩,hlm,?_⟩,by simp only;omega,AC [(7,.nm 7)] rfl rfl ?_ ?_⟩
      ·simp only
       rw[←hf,show i-k=(i-(k+1))+1 by omega]
       show _=if m.length≤256 then GQ i (i-(k+1)) (k+1) (GP m i k) else m
       rw[if_pos (by omega),e]
      ·first|exact eN|refine eM ?_
      ·first|exact eN|refine eM ?_
     ·omega
     ·have hm2:m=GQ i i 0 l:=by
       rw[←hf]
       cases hm:i-k with
       | zero=>rfl
       | succ j =>
        show _=if m.length≤256 then _ else m
        rw[if_neg (by omega)]
      rw[←hm2]at hg2
      refine⟨⟨(i+1,m),by simp only;omega,⟨hml,hmw⟩,?_⟩,by simp only;omega,AC [(7,.nm 7)] rfl rfl ?_ ?_⟩
      ·simp only
       rw[show 257-(i+1)=256-i by omega]
       exact hg2
      ·first|exact eN|refine eM ?_
      ·first|exact eN|refine eM ?_
   ·have hgl:l=A0 c:=by
     rw[←hg]
     cases hm:257-i with
     | zero=>rfl
     | succ m =>
      show _=if i<l.length∧l.length≤256 then _ else l
      rw[if_neg (by omega)]
    rw[←hgl]
    refine Gb [7] ?_
    exact AG hc [.tmp 2] rfl (.inl rfl) (by simp) (by first|exact eR|refine Ap ?_)
theorem cs0 {α:Type} (x y:α):(if ({ data:=#[] }:ByteArray).size≤AO then x else y)=x:=if_pos (by show 0≤AO;decide)
theorem cs1 {α:Type} (a:UInt8) (x y:α):(if ({ data:=#[a] }:ByteArray).size≤AO then x else y)=x:=if_pos (by show 1≤AO;decide)
theorem cs2 {α:Type} (a b:UInt8) (x y:α):(if ({ data:=#[a,b] }:ByteArray).size≤AO then x else y)=x:=if_pos (by show 2≤AO;decide)
theorem cs3 {α:Type} (a b c:UInt8) (x y:α):(if ({ data:=#[a,b,c] }:ByteArray).size≤AO then x else y)=x:=if_pos (by show 3≤AO;decide)
theorem cs4 {α:Type} (a b c d:UInt8) (x y:α):(if ({ data:=#[a,b,c,d] }:ByteArray).size≤AO then x else y)=x:=if_pos (by show 4≤AO;decide)
theorem cs5 {α:Type} (a b c d e:UInt8) (x y:α):(if ({ data:=#[a,b,c,d,e] }:ByteArray).size≤AO then x else y)=x:=if_pos (by show 5≤AO;decide)
theorem cs6 {α:Type} (a b c d e f:UInt8) (x y:α):(if ({ data:=#[a,b,c,d,e,f] }:ByteArray).size≤AO then x else y)=x:=if_pos (by show 6≤AO;decide)
theorem cs7 {α:Type} (a b c d e f g:UInt8) (x y:α):(if ({ data:=#[a,b,c,d,e,f,g] }:ByteArray).size≤AO then x else y)=x:=if_pos (by show 7≤AO;decide)
theorem cs8 {α:Type} (a b c d e f g h:UInt8) (x y:α):(if ({ data:=#[a,b,c,d,e,f,g,h] }:ByteArray).size≤AO then x else y)=x:=if_pos (by show 8≤AO;decide)
end
/- Plain: the bits of the codes. -/
section
def BK (b:List Int) (i:Nat):Bool:=(b.getD (i / 64) 0).toNat.testBit (i % 64)
def tJ (x:Int):Prop:=0≤x∧x<18446744073709551616
theorem E1 {x:Int} (h:tJ x):(BitVec.ofInt 64 x).toNat=x.toNat:=by
 rw[BitVec.toNat_ofInt]
 have h1:=h.1
 have h2:=h.2
 rw[Int.emod_eq_of_lt h1 (by simpa using h2)]
theorem OC {n:Nat} (h:n<18446744073709551616):IntKind.u64.wrap (n:Int)=n:=JB (by rw[Hn];omega)
theorem A07 {x y:Int} (hx:tJ x) (hy:tJ y):CJ .or .u64 x y=((x.toNat ||| y.toNat:Nat):Int):=by
 have h1:(BitVec.ofInt IntKind.u64.bits x ||| BitVec.ofInt IntKind.u64.bits y).toNat=x.toNat ||| y.toNat:=by
  rw[BitVec.toNat_or]
  show (BitVec.ofInt 64 x).toNat ||| (BitVec.ofInt 64 y).toNat=_
  rw[E1 hx,E1 hy]
 unfold CJ
 simp only
 rw[h1]
 have e:(18446744073709551616:Nat)=2 ^ 64:=by decide
 refine OC ?_
 rw[e]
 refine Nat.or_lt_two_pow ?_ ?_
 ·have:=hx.2;have:=hx.1;omega
 ·have:=hy.2;have:=hy.1;omega
theorem HI {x y:Int} (hx:tJ x) (hy:tJ y):CJ .and .u64 x y=((x.toNat &&& y.toNat:Nat):Int):=by
 have h1:(BitVec.ofInt IntKind.u64.bits x &&& BitVec.ofInt IntKind.u64.bits y).toNat=x.toNat &&& y.toNat:=by
  rw[BitVec.toNat_and]
  show (BitVec.ofInt 64 x).toNat &&& (BitVec.ofInt 64 y).toNat=_
  rw[E1 hx,E1 hy]
 unfold CJ
 simp only
 rw[h1]
 refine OC (Nat.lt_of_le_of_lt Nat.and_le_left ?_)
 have:=hx.2;have:=hx.1;omega
theorem PX {x y:Int}:CJ .andNot .u64 x y=((BitVec.ofInt 64 x &&& ~~~BitVec.ofInt 64 y).toNat:Int):=by
 show IntKind.u64.wrap ((BitVec.ofInt 64 x &&& ~~~BitVec.ofInt 64 y).toNat:Int)=_
 exact OC (BitVec.isLt _)
theorem Qa {x y:Int} (hx:tJ x) (hy:tJ y) (h:CJ .andNot .u64 x y=0) {r:Nat} (hr:r<64) (hb:x.toNat.testBit r=true):y.toNat.testBit r=true:=by
 rw[PX]at h
 have h1:(BitVec.ofInt 64 x &&& ~~~BitVec.ofInt 64 y).toNat=0:=by omega
 have h2:(BitVec.ofInt 64 x &&& ~~~BitVec.ofInt 64 y).toNat.testBit r=false:=by rw[h1];exact Nat.zero_testBit r
 rw[BitVec.testBit_toNat,BitVec.getLsbD_and,BitVec.getLsbD_not,←BitVec.testBit_toNat,←BitVec.testBit_toNat,E1 hx,E1 hy,hb]at h2
 simpa[hr] using h2
theorem Qb {x:Int}:CJ .andNot .u64 x x=0:=by
 rw[PX]
 simp
theorem Mm {b:List Int}:∀ {n:Nat},∀k,CQ b n≤k→k<n→b.getD k 0=0
 | 0,k,_,h=>by omega
 | n+1,k,h1,h2=>by
  unfold CQ at h1
  split at h1
  ·rename_i hz
   by_cases hk:k=n
   ·rw[hk];exact hz
   ·exact Mm k h1 (by omega)
  ·omega
theorem OD (b:List Int) (k:Nat):(BC b).getD k 0=b.getD k 0:=by
 unfold BC
 by_cases h:k<CQ b b.length
 ·simp[List.getD_eq_getElem?_getD,List.getElem?_take,h]
 ·have h1:(List.take (CQ b b.length) b).getD k 0=0:=by
   rw[List.getD_eq_getElem?_getD,List.getElem?_take,if_neg h];rfl
  rw[h1]
  by_cases h2:k<b.length
  ·exact(Mm k (by omega) h2).symm
  ·rw[List.getD_eq_getElem?_getD,List.getElem?_eq_none (by omega)];rfl
theorem Mn (b:List Int) (i:Nat):BK (BC b) i=BK b i:=by unfold BK;rw[OD]
def Hu (b:List Int):Prop:=∀x∈b,tJ x
theorem A4 {b:List Int} (h:Hu b) (k:Nat):tJ (b.getD k 0):=by
 rw[List.getD_eq_getElem?_getD]
 cases hh:b[k]? with
 | none=>exact⟨by simp,by simp⟩
 | some x=>exact h x (List.mem_of_getElem? hh)
theorem Mo {b:List Int} (h:Hu b):Hu (BC b):=fun x hx=>h x (List.mem_of_mem_take hx)
theorem Gk (b:List Int) (k:Nat):FX b (k:Int)=b.getD k 0:=by
 unfold FX
 split
 ·simp
 ·rename_i h
  rw[List.getD_eq_getElem?_getD,List.getElem?_eq_none (by omega)];rfl
theorem LW (op:BinOp) (a b:List Int) {n k:Nat} (h:k<n):(Fi op a b n).getD k 0=CJ op .u64 (a.getD k 0) (b.getD k 0):=by
 unfold Fi
 rw[List.getD_eq_getElem?_getD,List.getElem?_map,List.getElem?_range h]
 show CJ op .u64 (a.getD k 0) (FX b (k:Int))=_
 rw[Gk]
theorem XL {a b:List Int} (h:El a b=true) {k:Nat} (hk:k<a.length):CJ .andNot .u64 (a.getD k 0) (b.getD k 0)=0:=by
 unfold El PQ BC at h
 have h1:(List.take (CQ (Fi .andNot a b a.length) (Fi .andNot a b a.length).length) (Fi .andNot a b a.length)).length=0:=by
  have:=beq_iff_eq.1 h
  omega
 rw[List.length_take,D5]at h1
 have h2:=Sb (Fi .andNot a b a.length) a.length
 have h3:=Mm (b:=Fi .andNot a b a.length) (n:=a.length) k (by omega) hk
 rw[LW _ _ _ hk]at h3
 exact h3
theorem Ki {a b:List Int} (ha:Hu a) (hb:Hu b) (h:El a b=true) {i:Nat} (hi:BK a i=true):BK b i=true:=by
 by_cases hk:i / 64<a.length
 ·exact Qa (A4 ha _) (A4 hb _) (XL h hk) (Nat.mod_lt _ (by decide)) hi
 ·exfalso
  unfold BK at hi
  rw[List.getD_eq_getElem?_getD,List.getElem?_eq_none (by omega)]at hi
  simp at hi
theorem PY {b:List Int}:∀ {n:Nat},(∀k,k<n→b.getD k 0=0)→CQ b n=0
 | 0,_=>rfl
 | n+1,h=>by
  unfold CQ
  rw[if_pos (h n (by omega))]
  exact PY fun k hk=>h k (by omega)
theorem ZA (a:List Int):El a a=true:=by
 unfold El PQ BC
 have h1:CQ (Fi .andNot a a a.length) (Fi .andNot a a a.length).length=0:=by
  rw[D5]
  exact PY fun k hk=>by rw[LW _ _ _ hk];exact Qb
 rw[h1]
 rfl
theorem ZB (a:List Int):FJ a a=true:=by unfold FJ;rw[ZA];rfl
theorem A08 {b:List Int} (hb:Hu b) (hl:b.length=64) {x:Int} (h0:0≤x) (h1:x≤4095) (i:Nat):BK (oB b x) i=(BK b i||decide (x=(i:Int))):=by
 have e1:Int.tdiv x 64=x / 64:=Int.tdiv_eq_ediv_of_nonneg h0
 have e2:Int.tmod x 64=x % 64:=Int.tmod_eq_emod_of_nonneg h0
 obtain⟨n,rfl⟩:∃n:Nat,x=(n:Int):=⟨x.toNat,by omega⟩
 have hs:WS .u64 1 ((n:Int) % 64)=((2 ^ (n % 64):Nat):Int):=by
  unfold WS
  have e3:min ((n:Int) % 64).toNat IntKind.u64.bits=n % 64:=by
   have:((n:Int) % 64).toNat=n % 64:=by omega
   rw[this]
   have:IntKind.u64.bits=64:=rfl
   omega
  rw[e3,Int.one_mul]
  have:(2:Int) ^ (n % 64)=((2 ^ (n % 64):Nat):Int):=by simp
  rw[this]
  refine OC ?_
  have h3:(2:Nat) ^ (n % 64)<2 ^ 64:=Nat.pow_lt_pow_right (by decide) (Nat.mod_lt _ (by decide))
  exact h3
 have hu:tJ (WS .u64 1 ((n:Int) % 64)):=by
  rw[hs]
  have h3:(2:Nat) ^ (n % 64)<2 ^ 64:=Nat.pow_lt_pow_right (by decide) (Nat.mod_lt _ (by decide))
  have h4:(2:Nat) ^ 64=18446744073709551616:=by decide
  refine⟨Int.natCast_nonneg _,?_⟩
  rw[h4]at h3
  exact Int.ofNat_lt.2 h3
 have hn:((n:Int) / 64).toNat=n / 64:=by omega
 unfold oB BK
 rw[e1,e2,hn]
 by_cases hd:i / 64=n / 64
 ·have hlt:n / 64<b.length:=by omega
  rw[hd]
  have:(b.set (n / 64) (CJ .or .u64 (b.getD (n / 64) 0) (WS .u64 1 ((n:Int) % 64)))).getD (n / 64) 0=CJ .or .u64 (b.getD (n / 64) 0) (WS .u64 1 ((n:Int) % 64)):=by
   simp[List.getD_eq_getElem?_getD,hlt]
  rw[this,A07 (A4 hb _) hu,hs]
  simp only[Int.toNat_natCast,Nat.testBit_or,Nat.testBit_two_pow]
  congr 1
  rw[decide_eq_decide]
  omega
 ·have:(b.set (n / 64) (CJ .or .u64 (b.getD (n / 64) 0) (WS .u64 1 ((n:Int) % 64)))).getD (i / 64) 0=b.getD (i / 64) 0:=by
   simp[List.getD_eq_getElem?_getD,List.getElem?_set,Ne.symm hd]
  rw[this]
  have:decide ((n:Int)=(i:Int))=false:=by
   rw[decide_eq_false_iff_not]
   intro h
   exact hd (by omega)
  rw[this,Bool.or_false]
theorem A09 {b:List Int} (hb:Hu b) (x:Int):Hu (oB b x):=by
 intro y hy
 unfold oB at hy
 rcases List.mem_or_eq_of_mem_set hy with h|h
 ·exact hb y h
 ·rw[h]
  have:=LB .u64 ((BitVec.ofInt IntKind.u64.bits (b.getD (x.tdiv 64).toNat 0) ||| BitVec.ofInt IntKind.u64.bits (WS .u64 1 (x.tmod 64))).toNat:Int)
  rw[Hn]at this
  exact⟨this.1,by have:=this.2;show _<_;exact Int.lt_of_le_of_lt this (by decide)⟩
theorem A0a {l:List Int} (h:l.all okB=true) (i:Nat):BK (qE l) i=decide ((i:Int)∈l)∧Hu (qE l):=by
 have key:∀(l b:List Int),l.all okB=true→Hu b→b.length=64→BK (l.foldl oB b) i=(BK b i||decide ((i:Int)∈l))∧Hu (l.foldl oB b):=by
  intro l
  induction l with
  | nil=>intro b _ hb _;simp[hb]
  | cons x l ih =>
   intro b ho hb hl
   rw[List.all_cons,Bool.and_eq_true]at ho
   have hx:=ho.1
   unfold okB at hx
   rw[Bool.not_eq_true',Bool.or_eq_false_iff,decide_eq_false_iff_not,decide_eq_false_iff_not]at hx
   obtain⟨g1,g2⟩:=ih (oB b x) ho.2 (A09 hb x) (by simp[oB,hl])
   rw[List.foldl_cons]
   refine⟨?_,g2⟩
   rw[g1,A08 hb hl (by omega) (by omega),Bool.or_assoc]
   congr 1
   rw[←Bool.decide_or,decide_eq_decide,List.mem_cons,eq_comm]
 have h2:Hu (List.replicate 64 (0:Int)):=by
  intro y hy
  rw[(List.mem_replicate.1 hy).2]
  exact⟨by decide,by decide⟩
 have h1:=key l (List.replicate 64 0) h h2 (by simp)
 refine⟨?_,h1.2⟩
 unfold qE
 rw[h1.1]
 have:BK (List.replicate 64 (0:Int)) i=false:=by
  unfold BK
  have:(List.replicate 64 (0:Int)).getD (i / 64) 0=0:=by
   rw[List.getD_eq_getElem?_getD,List.getElem?_replicate]
   split<;>rfl
  rw[this]
  simp
 rw[this,Bool.false_or]
theorem tK {low all:List ByteArray} {n i:Nat}:((i:Int)∈Ml low all n)↔i<n∧Aa low (all.getD i ByteArray.empty)=true:=by
 unfold Ml
 rw[List.mem_map]
 constructor
 ·rintro⟨j,hj,e⟩
  have:j=i:=by omega
  subst this
  rw[List.mem_filter,List.mem_range]at hj
  exact hj
 ·rintro⟨h1,h2⟩
  exact⟨i,by rw[List.mem_filter,List.mem_range];exact⟨h1,h2⟩,rfl⟩
theorem A0b {low all:List ByteArray} {n:Nat} (hn:n≤4096):(Ml low all n).all okB=true:=by
 rw[List.all_eq_true]
 intro x hx
 unfold Ml at hx
 obtain⟨j,hj,rfl⟩:=List.mem_map.1 hx
 rw[List.mem_filter,List.mem_range]at hj
 unfold okB
 rw[Bool.not_eq_true',Bool.or_eq_false_iff,decide_eq_false_iff_not,decide_eq_false_iff_not]
 exact⟨by omega,by omega⟩
theorem D6 {d:List AJ} {all:List ByteArray} (hl:all.length≤4096) (s:ByteArray) (i:Nat):(BK (GV d all s) i=true↔i<all.length∧Aa (DN d s) (all.getD i ByteArray.empty)=true)∧Hu (GV d all s)∧(GV d all s).length≤64:=by
 have h1:=A0b (low:=DN d s) (all:=all) hl
 have h2:=A0a h1 i
 have h3:GV d all s=BC (qE (Ml (DN d s) all all.length)):=by
  unfold GV wN
  rw[if_pos h1]
 refine⟨?_,?_,?_⟩
 ·rw[h3,Mn,h2.1,decide_eq_true_eq,tK]
 ·rw[h3];exact Mo h2.2
 ·rw[h3]
  unfold BC
  have:=N0 (Ml (DN d s) all all.length)
  rw[List.length_take]
  omega
end
/- Plain: what is placed stands in order; what is below comes behind. -/
section
theorem Qc (d:List AJ) {s t:ByteArray} (h:Ar s t=true):A7 d s=A7 d t:=by
 have key:∀(l:List AJ) (k:Nat),CR s k l=CR t k l:=by
  intro l
  induction l with
  | nil=>intro k;rfl
  | cons x l ih =>
   intro k
   simp only[CR]
   have:Ar x.1 s=Ar x.1 t:=by
    cases h1:Ar x.1 s with
    | true=>exact(B2 h1 h).symm
    | false =>
     cases h2:Ar x.1 t with
     | false=>rfl
     | true=>rw[B2 h2 (Et h)]at h1;cases h1
   rw[this,ih]
 exact key d 0
theorem CS {α:Type} {l:List α} {d:α} {k:Nat} (h:k<l.length):l.getD k d∈l:=by
 rw[List.getD_eq_getElem?_getD,List.getElem?_eq_getElem h]
 exact List.getElem_mem h
theorem DZ {α:Type} {l:List α} (d:α) {x:α} (h:x∈l):∃k,k<l.length∧l.getD k d=x:=by
 obtain⟨k,hk,e⟩:=List.mem_iff_getElem.1 h
 exact⟨k,hk,by rw[List.getD_eq_getElem?_getD,List.getElem?_eq_getElem hk];exact e⟩
theorem Kj {d:List AJ}:∀ {r:List AJ} {k:Nat},Mi d k r=0→∀j,j<r.length→¬A7 d (r.getD j d0).1<((k+j:Nat):Int)∧EU (r.getD j d0).1 false=true
 | [],_,_,j,hj=>by simp at hj
 | x :: r,k,h,j,hj=>by
  simp only[Mi]at h
  split at h
  ·cases h
  ·rename_i h1
   split at h
   ·cases h
   ·rename_i h2
    cases j with
    | zero=>exact⟨h2,by simpa using h1⟩
    | succ j =>
     have:=Kj h j (by simpa using hj)
     have e:k+(j+1)=k+1+j:=by omega
     rw[e]
     exact this
theorem OE (s:ByteArray):∀(l:List AJ) (k j:Nat),j<l.length→Ar (l.getD j d0).1 s=true→CR s k l≤((k+j:Nat):Int)
 | [],_,j,h,_=>by simp at h
 | x :: l,k,j,h,e=>by
  simp only[CR]
  split
  ·omega
  ·rename_i h1
   cases j with
   | zero=>exact absurd e h1
   | succ j =>
    have:=OE s l (k+1) j (by simpa using h) e
    omega
theorem OG {d:List AJ} (h:DL d=0) {j:Nat} (hj:j<d.length):A7 d (d.getD j d0).1=(j:Int):=by
 have h1:=(Kj h j hj).1
 have h2:=OE (d.getD j d0).1 d 0 j hj (Es _)
 rw[Nat.zero_add]at h1 h2
 have h2:A7 d (d.getD j d0).1≤(j:Int):=h2
 omega
theorem ZC {d:List AJ} (h:DL d=0) {x y:AJ} (hx:x∈d) (hy:y∈d) (e:Ar x.1 y.1=true):x=y:=by
 obtain⟨i,hi,rfl⟩:=DZ d0 hx
 obtain⟨j,hj,rfl⟩:=DZ d0 hy
 have h1:=OG h hi
 have h2:=OG h hj
 rw[Qc d e,h2]at h1
 have:i=j:=by omega
 rw[this]
theorem cF (d:List AJ) (out:List ByteArray) (h:(HE d out).1=true):∃x∈d,x.1=(HE d out).2∧Aa out x.1=false∧HD x out=true:=by
 have key:∀(l:List AJ) (s:Bool×ByteArray),(∀x∈l,x∈d)→(s.1=true→∃x∈d,x.1=s.2∧Aa out x.1=false∧HD x out=true)→(l.foldl (Hs out) s).1=true →
   ∃x∈d,x.1=(l.foldl (Hs out) s).2∧Aa out x.1=false∧HD x out=true:=by
  intro l
  induction l with
  | nil=>intro s _ hs h;exact hs h
  | cons y l ih =>
   intro s hl hs h
   rw[List.foldl_cons]at h ⊢
   refine ih _ (fun x hx=>hl x (by simp[hx])) (fun hp=>?_) h
   unfold Hs at hp ⊢
   split
   ·rename_i hc
    rw[if_pos hc]at hp
    exact hs hp
   ·rename_i hc
    simp only
    have hc:Aa out y.1=false∧HD y out=true:=by simpa using hc
    split
    ·exact⟨y,hl y (by simp),rfl,hc⟩
    ·rename_i hc2
     have:s.1=true:=by
      cases hh:s.1 with
      | true=>rfl
      | false=>rw[hh]at hc2;simp at hc2
     exact hs this
 exact key d _ (fun _ h=>h) (fun h=>by cases h) h
def PL (d:List AJ) (o:List ByteArray):Prop:=∀j,j<o.length→∃x∈d,x.1=o.getD j ByteArray.empty∧Aa (o.take j) x.1=false∧HD x (o.take j)=true
theorem PL.snoc {d:List AJ} {o:List ByteArray} (h:PL d o) {x:AJ} (hx:x∈d) (h1:Aa o x.1=false) (h2:HD x o=true):PL d (o++[x.1]):=by
 intro j hj
 by_cases hjo:j<o.length
 ·obtain⟨y,hy,e1,e2,e3⟩:=h j hjo
  refine⟨y,hy,?_,?_,?_⟩
  ·rw[e1];simp[List.getD_eq_getElem?_getD,List.getElem?_append,hjo]
  ·rw[List.take_append_of_le_length (by omega)];exact e2
  ·rw[List.take_append_of_le_length (by omega)];exact e3
 ·have hj2:j=o.length:=by simp at hj;omega
  subst hj2
  refine⟨x,hx,?_,?_,?_⟩
  ·simp[List.getD_eq_getElem?_getD]
  ·rw[List.take_append_of_le_length (by omega),List.take_length];exact h1
  ·rw[List.take_append_of_le_length (by omega),List.take_length];exact h2
theorem So {d:List AJ}:∀ {n:Nat} {o:List ByteArray},PL d o→PL d (Ht d n o)
 | 0,_,h=>h
 | n+1,o,h=>by
  unfold Ht
  split
  ·rename_i hp
   obtain⟨x,hx,e,h1,h2⟩:=cF d o hp
   rw[←e]
   exact So (h.snoc hx h1 h2)
  ·exact h
theorem VR (d:List AJ):PL d (BZ d):=So fun j hj=>by simp at hj
theorem PL.ok {d:List AJ} {o:List ByteArray} (h:PL d o):Xy d o:=by
 refine⟨fun s hs=>?_,?_⟩
 ·obtain⟨j,hj,rfl⟩:=DZ ByteArray.empty hs
  obtain⟨x,hx,e,-⟩:=h j hj
  rw[←e]
  exact Eu hx
 ·rw[List.pairwise_iff_getElem]
  intro i j hi hj hij
  obtain⟨x,hx,e,h1,-⟩:=h j hj
  have h2:=Nz h1 o[i] (by rw[List.mem_take_iff_getElem];exact⟨i,by omega,rfl⟩)
  rw[e]at h2
  rw[List.getD_eq_getElem?_getD,List.getElem?_eq_getElem hj]at h2
  exact h2
theorem cG {n:Nat} {l:List Nat} (h:l.Nodup) (hl:∀j∈l,j<n) (hn:n≤l.length) {k:Nat} (hk:k<n):k∈l:=by
 refine Classical.byContradiction fun hc=>?_
 have:=EI n (k :: l) (List.nodup_cons.2 ⟨hc,h⟩) (fun j hj=>by
  rcases List.mem_cons.1 hj with rfl|hj
  ·exact hk
  ·exact hl j hj)
 simp at this
 omega
theorem cH {d:List AJ} (hl:d.length≤(BZ d).length) {x:AJ} (hx:x∈d):∃s∈BZ d,Ar s x.1=true:=by
 have hA:=(VR d).ok
 have h1:=JQ d hA
 have h0:=Eu hx
 have hd:=DA d x.1
 have h2:=cG (n:=d.length) h1 (fun j hj=>by
  obtain⟨s,hs,rfl⟩:=List.mem_map.1 hj
  have h1:=hA.decl s hs
  rcases DA d s with g|⟨_,g,_⟩<;>omega) (by simpa using hl) (k:=(A7 d x.1).toNat) (by omega)
 obtain⟨s,hs,e⟩:=List.mem_map.1 h2
 refine⟨s,hs,?_⟩
 rcases DA d s with g|⟨_,_,g1⟩
 ·have:=hA.decl s hs;omega
 ·rcases hd with g|⟨_,_,g2⟩
  ·omega
  ·rw[e]at g1
   exact B2 (Et g1) g2
def HJ (d:List AJ) (s:ByteArray):Nat:=(BZ d).findIdx fun x=>Ar x s
theorem Mp (d:List AJ) {s t:ByteArray} (h:Ar s t=true):HJ d s=HJ d t:=by
 unfold HJ
 congr 1
 funext x
 cases h1:Ar x s with
 | true=>exact(B2 h1 h).symm
 | false =>
  cases h2:Ar x t with
  | false=>rfl
  | true=>rw[B2 h2 (Et h)]at h1;cases h1
theorem Mq {d:List AJ} (hn:DL d=0) (hl:d.length≤(BZ d).length) {x:AJ} (hx:x∈d) {s:ByteArray} (hs:Aa x.2.1 s=true):HJ d s<HJ d x.1:=by
 obtain⟨t,ht,e⟩:=cH hl hx
 have hlt:HJ d x.1<(BZ d).length:=List.findIdx_lt_length_of_exists ⟨t,ht,e⟩
 have heq:Ar ((BZ d)[HJ d x.1]) x.1=true:=List.findIdx_getElem (w:=hlt)
 obtain⟨y,hy,e1,-,h3⟩:=VR d (HJ d x.1) hlt
 rw[List.getD_eq_getElem?_getD,List.getElem?_eq_getElem hlt]at e1
 have e1:y.1=(BZ d)[HJ d x.1]:=e1
 rw[←e1]at heq
 have hyx:=ZC hn hy hx heq
 subst hyx
 obtain⟨u,hu,eu⟩:=List.any_eq_true.1 hs
 have h4:Aa ((BZ d).take (HJ d y.1)) u=true:=List.all_eq_true.1 h3 u hu
 obtain⟨v,hv,ev⟩:=List.any_eq_true.1 h4
 rw[List.mem_take_iff_getElem]at hv
 obtain⟨i,hi,rfl⟩:=hv
 have hi2:i<HJ d y.1:=by omega
 refine Nat.lt_of_le_of_lt ?_ hi2
 refine Classical.byContradiction fun hc=>?_
 have h5:=List.not_of_lt_findIdx (p:=fun x=>Ar x s) (xs:=BZ d) (i:=i) (by unfold HJ at hc;omega)
 have h6:Ar ((BZ d)[i]) s=true:=B2 ev eu
 try simp only at h5
 rw[h6]at h5
 exact absurd h5 (by simp)
def UO (d:List AJ) (s x:ByteArray):Prop:=Ar s x=true∨HJ d s<HJ d x
theorem oG {d:List AJ} (hn:DL d=0) (hl:d.length≤(BZ d).length) {s c:ByteArray} (hc:UO d s c) {o:List ByteArray} (ho:∀x∈o,UO d s x) {x:AJ} (hx:x∈d):∀y∈E5 c o x,UO d s y:=by
 intro y hy
 unfold E5 at hy
 split at hy
 ·rename_i h
  rw[Bool.and_eq_true]at h
  rcases List.mem_append.1 hy with hy|hy
  ·exact ho y hy
  ·have:y=x.1:=by simpa using hy
   subst this
   have h1:=Mq hn hl hx h.1
   right
   rcases hc with hc|hc
   ·rw[Mp d hc];exact h1
   ·omega
 ·exact ho y hy
theorem Sp {d:List AJ} (hn:DL d=0) (hl:d.length≤(BZ d).length) {s c:ByteArray} (hc:UO d s c):∀ {l:List AJ} {o:List ByteArray},(∀x∈l,x∈d)→(∀x∈o,UO d s x)→∀y∈l.foldl (E5 c) o,UO d s y
 | [],_,_,ho=>ho
 | x :: l,o,hx,ho=>by
  rw[List.foldl_cons]
  exact Sp hn hl hc (fun y hy=>hx y (by simp[hy])) (oG hn hl hc ho (hx x (by simp)))
theorem Qd {d:List AJ} (hn:DL d=0) (hl:d.length≤(BZ d).length) {s:ByteArray}:∀ {n i:Nat} {o:List ByteArray},(∀x∈o,UO d s x)→∀y∈DM d n i o,UO d s y
 | 0,_,_,ho=>ho
 | n+1,i,o,ho=>by
  unfold DM
  split
  ·rename_i hi
   exact Qd hn hl (Sp hn hl (ho _ (CS hi)) (fun _ h=>h) ho)
  ·exact ho
theorem tL {c:ByteArray} {o:List ByteArray} {x:AJ} {y:ByteArray} (h:y∈o):y∈E5 c o x:=by
 unfold E5
 split
 ·exact List.mem_append.2 (.inl h)
 ·exact h
theorem LX {c:ByteArray} {y:ByteArray}:∀ {l:List AJ} {o:List ByteArray},y∈o→y∈l.foldl (E5 c) o
 | [],_,h=>h
 | x :: l,o,h=>by rw[List.foldl_cons];exact LX (tL h)
theorem Mr {d:List AJ} {y:ByteArray}:∀ {n i:Nat} {o:List ByteArray},y∈o→y∈DM d n i o
 | 0,_,_,h=>h
 | n+1,i,o,h=>by
  unfold DM
  split
  ·exact Mr (LX h)
  ·exact h
theorem OH {l:List ByteArray} {s x:ByteArray} (h:x∈Dk l s):x∈l∨x=s:=by
  unfold Dk at h
  split at h
  · exact .inl h
  · simp only[List.mem_append,List.mem_cons,List.mem_singleton]at h
    rcases h with h|h
    · first
        | exact .inl (List.mem_of_mem_take h)
        | (rcases h with h | h
           · exact .inl (List.mem_of_mem_take h)
           · exact .inr (by simpa using h))
    · first
        | exact .inl (List.mem_of_mem_drop h)
        | (rcases h with h | h
           · exact .inr h
           · exact .inl (List.mem_of_mem_drop h))
theorem VS {l:List ByteArray} {s x:ByteArray} (h:x∈l):x∈Dk l s:=by
 unfold Dk
 split
 ·exact h
 ·have h2:x∈l.take (qD l s)∨x∈l.drop (qD l s):=List.mem_append.1 (by rw[List.take_append_drop];exact h)
  simp only[List.mem_append,List.mem_cons,List.mem_singleton]
  rcases h2 with h2|h2<;>simp[h2]
theorem ZD {l:List ByteArray} {s:ByteArray}:Aa (Dk l s) s=true:=by
  unfold Dk
  split
  · rename_i h
    first
      | exact GA l ByteArray.empty _ h.1 h.2
      | (have h : qD l s < l.length ∧ Ar (l.getD (qD l s) ByteArray.empty) s = true := by simpa using h
         exact GA l ByteArray.empty _ h.1 h.2)
  · unfold Aa
    rw[List.any_eq_true]
    exact⟨s,by simp,Es s⟩
theorem LY {l:List ByteArray} {s:ByteArray} (h:s∈l):Aa l s=true:=List.any_eq_true.2 ⟨s,h,Es s⟩
theorem LZ {l m:List ByteArray} {s:ByteArray} (hs:∀x∈l,x∈m) (h:Aa l s=true):Aa m s=true:=by
 obtain⟨x,hx,e⟩:=List.any_eq_true.1 h
 exact List.any_eq_true.2 ⟨x,hs x hx,e⟩
theorem ZE:∀ {l o:List ByteArray} {x:ByteArray},x∈l.foldl Dk o→x∈o∨x∈l
 | [],_,_,h=>.inl h
 | y :: l,o,x,h=>by
  rw[List.foldl_cons]at h
  rcases ZE h with h|h
  ·rcases OH h with h|h
   ·exact .inl h
   ·exact .inr (by simp[h])
  ·exact .inr (by simp[h])
theorem VT:∀ {l o:List ByteArray} {x:ByteArray},x∈o→x∈l.foldl Dk o
 | [],_,_,h=>h
 | y :: l,o,x,h=>by rw[List.foldl_cons];exact VT (VS h)
theorem Sq:∀ {l o:List ByteArray} {x:ByteArray},x∈l→Aa (l.foldl Dk o) x=true
 | [],_,_,h=>by cases h
 | y :: l,o,x,h=>by
  rw[List.foldl_cons]
  rcases List.mem_cons.1 h with rfl|h
  ·exact LZ (fun z hz=>VT hz) (ZD (l:=o) (s:=x))
  ·exact Sq h
theorem Ms {d:List AJ} {s:ByteArray} (h:0≤A7 d s):Aa (DN d s) s=true:=by
 unfold DN
 rw[if_neg (by omega)]
 exact Sq (Mr (by simp))
theorem Sr {d:List AJ} (hn:DL d=0) (hl:d.length≤(BZ d).length) {s x:ByteArray} (h:Aa (DN d s) x=true):UO d s x:=by
 obtain⟨y,hy,e⟩:=List.any_eq_true.1 h
 have hb:UO d s y:=by
  unfold DN at hy
  split at hy
  ·cases hy
  ·rcases ZE hy with hy|hy
   ·cases hy
   ·refine Qd hn hl (fun z hz=>?_) y hy
    have:z=s:=by simpa using hz
    rw[this]
    exact .inl (Es s)
 rcases hb with hb|hb
 ·exact .inl (B2 hb e)
 ·rw[Mp d e]at hb
  exact .inr hb
theorem Fk {d:List AJ} {s:ByteArray} (h:s∈AR d):∃x∈d,x.1=s:=by
 have key:∀(l:List AJ) (o:List ByteArray),s∈l.foldl (fun o x=>Dk o x.1) o→s∈o∨∃x∈l,x.1=s:=by
  intro l
  induction l with
  | nil=>intro o h;exact .inl h
  | cons x l ih =>
   intro o h
   rw[List.foldl_cons]at h
   rcases ih _ h with h|⟨y,hy,e⟩
   ·rcases OH h with h|h
    ·exact .inl h
    ·exact .inr ⟨x,by simp,h.symm⟩
   ·exact .inr ⟨y,by simp[hy],e⟩
 rcases key d [] h with h|h
 ·cases h
 ·exact h
theorem Ss {d:List AJ} {x:AJ} (h:x∈d):Aa (AR d) x.1=true:=by
 have keep:∀(l:List AJ) (o:List ByteArray),∀y∈o,y∈l.foldl (fun o x=>Dk o x.1) o:=by
  intro l
  induction l with
  | nil=>intro o y h;exact h
  | cons x l ih=>intro o y h;rw[List.foldl_cons];exact ih _ y (VS h)
 have key:∀(l:List AJ) (o:List ByteArray),x∈l→Aa (l.foldl (fun o x=>Dk o x.1) o) x.1=true:=by
  intro l
  induction l with
  | nil=>intro o h;cases h
  | cons y l ih =>
   intro o h
   rw[List.foldl_cons]
   rcases List.mem_cons.1 h with rfl|h
   ·exact LZ (keep l _) (ZD (l:=o) (s:=x.1))
   ·exact ih _ h
 exact key d [] h
theorem ZF {d:List AJ} (hn:DL d=0) (hl:d.length≤(BZ d).length) (h2:d.length≤256) {i j:Nat} (hi:i<(AR d).length) (hj:j<(AR d).length)
  (h:FJ (GV d (AR d) ((AR d).getD i ByteArray.empty)) (GV d (AR d) ((AR d).getD j ByteArray.empty))=true):Ar ((AR d).getD i ByteArray.empty) ((AR d).getD j ByteArray.empty)=true:=by
 have hnl:=Er d d.length
 rw[List.take_length]at hnl
 have hal:(AR d).length≤4096:=by omega
 generalize hs:(AR d).getD i ByteArray.empty=s at *
 generalize ht:(AR d).getD j ByteArray.empty=t at *
 have hsd:0≤A7 d s:=by
  obtain⟨x,hx,e⟩:=Fk (s:=s) (by rw[←hs];exact CS hi)
  rw[←e];exact Eu hx
 have htd:0≤A7 d t:=by
  obtain⟨x,hx,e⟩:=Fk (s:=t) (by rw[←ht];exact CS hj)
  rw[←e];exact Eu hx
 obtain⟨c1,w1,-⟩:=D6 (d:=d) hal s i
 obtain⟨c2,w2,-⟩:=D6 (d:=d) hal t i
 obtain⟨c3,-,-⟩:=D6 (d:=d) hal s j
 obtain⟨c4,-,-⟩:=D6 (d:=d) hal t j
 unfold FJ at h
 rw[Bool.and_eq_true]at h
 have b1:=Sr hn hl (c2.1 (Ki w1 w2 h.1 (c1.2 ⟨hi,by rw[hs];exact Ms hsd⟩))).2
 have b2:=Sr hn hl (c3.1 (Ki w2 w1 h.2 (c4.2 ⟨hj,by rw[ht];exact Ms htd⟩))).2
 rw[hs]at b1
 rw[ht]at b2
 rcases b1 with b1|b1
 ·exact Et b1
 ·rcases b2 with b2|b2
  ·exact b2
  ·omega
end
/- Functions of grammarlabref04: name. -/
section
attribute [local go_sem] RT b8 HH cs0 cs1
def nmG (d:List AJ) (all:List ByteArray) (codes:List (List Int)) (b:List Int):Nat→Nat→List ByteArray→ByteArray ⊕ List ByteArray
 | 0,_,l=>.inr l
 | n+1,i,l=>if FJ (codes.getD i []) b=true then .inl (all.getD i ByteArray.empty) else nmG d all codes b n (i+1) (if Sc b (i:Int)=true then l++[all.getD i ByteArray.empty] else l)
def ZG (l:List ByteArray) (s:ByteArray) (i:Nat):ByteArray:=(if 0<(i:Int) then s++ByteArray.mk #[38] else s)++l.getD i ByteArray.empty
def tM (l:List ByteArray):ByteArray:=(List.range l.length).foldl (ZG l) ByteArray.empty
def HK (d:List AJ) (all:List ByteArray) (codes:List (List Int)) (b:List Int):ByteArray :=
 match nmG d all codes b all.length 0 [] with
 | .inl s=>s
 | .inr l=>tM (Bw d l)
theorem L8 {d:List AJ} {x:ByteArray}:∀ {l o:List ByteArray},x∈l.foldl (Jn d) o→x∈o∨x∈l
 | [],_,h=>.inl h
 | y :: l,o,h=>by
  rw[List.foldl_cons]at h
  rcases L8 h with h|h
  ·unfold Jn at h
   split at h
   ·rcases OH h with h|h
    ·exact .inl h
    ·exact .inr (by simp[h])
   ·exact .inl h
  ·exact .inr (by simp[h])
theorem XM {d:List AJ} {l:List ByteArray} {x:ByteArray} (h:x∈Bw d l):x∈l:=by
 unfold Bw RE at h
 obtain⟨i,hi,rfl⟩:=List.mem_map.1 h
 rw[List.mem_filter,List.mem_range]at hi
 rcases L8 (CS (d:=ByteArray.empty) hi.1) with h|h
 ·cases h
 ·exact h
theorem XN (d:List AJ) (l:List ByteArray):(Bw d l).length≤l.length:=Nat.le_trans (Y5 _ _ _) (IK d l)
theorem cI {l:List ByteArray} (h:∀s∈l,s.size≤32) (k:Nat):(l.getD k ByteArray.empty).size≤32:=by
 rw[List.getD_eq_getElem?_getD]
 cases hh:l[k]? with
 | none=>simp
 | some x=>exact h x (List.mem_of_getElem? hh)
def Su (l:List ByteArray) (n:Nat):ByteArray:=(List.range n).foldl (ZG l) ByteArray.empty
theorem Sv (l:List ByteArray) (n:Nat):Su l (n+1)=ZG l (Su l n) n:=by
 unfold Su
 rw[List.range_succ,List.foldl_append]
 rfl
theorem Sw {l:List ByteArray} (h:∀s∈l,s.size≤32):∀n,(Su l n).size≤33*n
 | 0=>by simp[Su]
 | n+1=>by
  have h1:=Sw h n
  have h2:=cI h n
  rw[Sv]
  unfold ZG
  split
  ·rw[ByteArray.size_append,ByteArray.size_append]
   have:(ByteArray.mk #[38]).size=1:=rfl
   omega
  ·rw[ByteArray.size_append]
   omega
def RZ:Ac:={ ins:=[EK,Bq,RC,A6],pre:=fun(d,all,codes,b,_)=>Sg d∧List.length d≤256∧List.length all≤256∧List.length codes=List.length all∧(∀s∈(all:List ByteArray),s.size≤32)∧(∀x∈(codes:List (List Int)),x.length≤64)∧List.length b≤64,out:=fun(d,all,codes,b,_)=>[.p T9 (HK d all codes b)] }
theorem oH:Ai Tryz.prog 92 RZ:=by
 refine AP Tryz.func92 (by kernel_rfl) rfl Tryz.ntmps92 (by decide) (by kernel_rfl) (AH [(134,RT),(135,b8),(136,HH)]) (AE nZ (AE s6 (AE Sk AI))) ?_
 rintro w0 O0 ⟨d,all,codes,b,u⟩ hc-⟨hs,hd,hall,hcd,hsz,hcw,hb⟩
 have hall:all.length≤256:=hall
 have hcd:codes.length=all.length:=hcd
 simp only[RZ,AM]
 repeat'(first|exact trivial|refine eS rfl ?_|refine AB ?_|refine rX [0,1,2,3,8,9,10,11,12,16,24,31,45,49] hc ?_ ?_|refine rC ?_ ?_<;>intro AA<;>try(cases AA;done))
 refine AK (ι:={x:Nat×List ByteArray//x.1≤all.length∧x.2.length≤x.1∧(∀s∈x.2,s.size≤32)∧nmG d all codes b (all.length-x.1) x.1 x.2=nmG d all codes b all.length 0 []}) (fun x=>⟨[(0,.p EK d),(1,.p Bq all),(2,.p RC codes),(3,.p A6 b),(9,.sr 38 T9 0 x.1.2.length),(10,.p (.int .i64) (x.1.1:Int))],[(38,.arr 9 T9 x.1.2)]⟩) (fun x=>all.length-x.1.1) ⟨(0,[]),by simp,by simp,by simp,rfl⟩ (AC [(38,.nil)] rfl rfl ?_ ?_) (fun x=>?_)
 ·first|exact eN|refine eM ?_
 ·first|exact eN|refine eM ?_
 ·obtain⟨⟨i,l⟩,hi,hli,hls,hg⟩:=x
  simp only at hi hli hls hg
  have hstep:i<all.length→nmG d all codes b (all.length-i) i l=if FJ (codes.getD i []) b=true then .inl (all.getD i ByteArray.empty) else nmG d all codes b (all.length-(i+1)) (i+1) (if Sc b (i:Int)=true then l++[all.getD i ByteArray.empty] else l):=by
   intro h
   rw[show all.length-i=(all.length-(i+1))+1 by omega]
   rfl
  simp only
  repeat'(first|exact trivial|refine eS rfl ?_|refine AB ?_|refine rX [0,1,2,3,8,9,10,11,12,16,24,31,45,49] hc ?_ ?_|refine rC ?_ ?_<;>intro AA<;>try(cases AA;done))
  ·exact⟨by rw[hcd];exact AA,Nat.le_trans (Kh hcw i) (by decide),Nat.le_trans hb (by decide)⟩
  ·assumption
  ·have hi2:i<all.length:=by exact eV
   have hr:HK d all codes b=all.getD i ByteArray.empty:=by
    unfold HK
    rw[←hg,hstep hi2,if_pos AA]
   exact AG hc [.tmp 8] rfl (.inl rfl) (by simp) (by rw[hr];first|exact eR|refine Ap ?_)
  ·have hi2:i<all.length:=by exact eV
   exact⟨Int.ofNat_lt.2 hi2,by simp only[AO];omega⟩
  ·exact eV
  ·have hi2:i<all.length:=by exact eV
   have hn:=hstep hi2
   rw[if_neg (by rw[‹FJ _ _=false›];simp),if_pos AA]at hn
   refine⟨⟨(i+1,l++[all.getD i ByteArray.empty]),by simp only;omega,by simp only[List.length_append,List.length_singleton];omega,?_,hn.symm.trans hg⟩,by simp only;omega,AC [(38,.nm 38)] rfl rfl ?_ ?_⟩
   ·intro s hs
    rcases List.mem_append.1 hs with hs|hs
    ·exact hls s hs
    ·have:s=all.getD i ByteArray.empty:=by simpa using hs
     rw[this]
     exact cI hsz i
   ·first|exact eN|refine eM ?_
   ·first|exact eN|refine eM ?_
  ·exact eV
  ·have hi2:i<all.length:=by exact eV
   have hn:=hstep hi2
   rw[if_neg (by rw[‹FJ _ _=false›];simp),if_neg (by rw[AA];simp)]at hn
   refine⟨⟨(i+1,l),by simp only;omega,by simp only;omega,hls,hn.symm.trans hg⟩,by simp only;omega,AC [(38,.nm 38)] rfl rfl ?_ ?_⟩
   ·first|exact eN|refine eM ?_
   ·first|exact eN|refine eM ?_
  ·have hr:HK d all codes b=tM (Bw d l):=by
    unfold HK
    rw[←hg]
    have:all.length-i=0:=by exact eV
    rw[this]
    rfl
   refine Gb [38] ?_
   repeat'(first|exact trivial|refine eS rfl ?_|refine AB ?_|refine rX [0,1,2,3,8,9,10,11,12,16,24,31,45,49] hc ?_ ?_|refine rC ?_ ?_<;>intro AA<;>try(cases AA;done))
   ·exact⟨hs,hd,by omega⟩
   ·have hmm:∀s∈Bw d l,s.size≤32:=fun s h=>hls s (XM h)
    have hml:=XN d l
    have hjf:tM (Bw d l)=Su (Bw d l) (Bw d l).length:=rfl
    rw[hjf]at hr
    generalize Bw d l=m at *
    refine AK (ι:={k:Nat//k≤m.length}) (fun k=>⟨[(9,.p Bq m),(11,.p T9 (Su m k.1)),(12,.p (.int .i64) (k.1:Int))],[]⟩) (fun k=>m.length-k.1) ⟨0,Nat.zero_le _⟩ (AC [] rfl rfl ?_ ?_) (fun k=>?_)
    ·first|exact eN|refine eM ?_
    ·first|exact eN|refine eM ?_
     rfl
    ·obtain⟨k,hk⟩:=k
     have hk:k≤m.length:=hk
     have hjs:=Sw hmm k
     have hss:=Sv m k
     have hs2:=cI hmm k
     unfold ZG at hss
     simp only
     repeat'(first|exact trivial|refine eS rfl ?_|refine AB ?_|refine rX [0,1,2,3,8,9,10,11,12,16,24,31,45,49] hc ?_ ?_|refine rC ?_ ?_<;>intro AA<;>try(cases AA;done))
     ·have h1:(ByteArray.mk #[38]).size=1:=rfl
      rw[h1]
      simp only[AO]
      exact eV
     ·refine⟨by assumption,?_⟩
      have h1:(ByteArray.mk #[38]).size=1:=rfl
      rw[ByteArray.size_append,h1]
      simp only[AO]
      exact eV
     ·exact eV
     ·have hk2:k<m.length:=by exact eV
      rw[if_pos AA]at hss
      refine⟨⟨k+1,hk2⟩,by simp only;omega,AC [] rfl rfl ?_ ?_⟩
      ·first|exact eN|refine eM ?_
      ·simp only[hss]
       first|exact eN|refine eM ?_
     ·refine⟨by assumption,?_⟩
      simp only[AO]
      exact eV
     ·exact eV
     ·have hk2:k<m.length:=by exact eV
      rw[if_neg (Int.not_lt.2 AA)]at hss
      refine⟨⟨k+1,hk2⟩,by simp only;omega,AC [] rfl rfl ?_ ?_⟩
      ·first|exact eN|refine eM ?_
      ·simp only[hss]
       first|exact eN|refine eM ?_
     ·have hk2:k=m.length:=by exact eV
      rw[←hk2]at hr
      exact AG hc [.tmp 8] rfl (.inl rfl) (by simp) (by rw[hr];first|exact eR|refine Ap ?_)
end
/- Functions of grammarlabref04: Codes. -/
section
attribute [local go_sem] Ny JO kZ RY RZ RW
def E2 (x:AQ) (out:List AQ):Nat→Nat
 | 0=>0
 | n+1=>if FK x (out.getD n c0)=true then E2 x out n else n+1
def XO (out:List AQ) (x:AQ):List AQ:=out.take (E2 x out out.length)++[x]++out.drop (E2 x out out.length)
def Ad (d:List AJ):List (List Int):=(AR d).map fun s=>GV d (AR d) s
def Fl (d:List AJ) (all:List ByteArray) (codes:List (List Int)) (out:List AQ) (b:List Int):List AQ:=XO out (HK d all codes b,b)
def PZ (d:List AJ):List AQ→List Int→List AQ:=Fl d (AR d) (Ad d)
theorem Mt (d:List AJ) (all:List ByteArray) (codes:List (List Int)):∀(l:List (List Int)) (o:List AQ),(l.foldl (Fl d all codes) o).length=o.length+l.length
 | [],o=>by simp
 | b :: l,o=>by
  rw[List.foldl_cons,Mt d all codes l]
  unfold Fl XO
  simp only[List.length_append,List.length_take,List.length_drop,List.length_cons,List.length_nil]
  omega
theorem Sx {d:List AJ} {all:List ByteArray} {codes:List (List Int)}:∀ {l:List (List Int)} {o:List AQ},(∀c∈l,c.length≤64)→(∀y∈o,y.2.length≤64)→∀y∈l.foldl (Fl d all codes) o,y.2.length≤64
 | [],_,_,ho=>ho
 | b :: l,o,hl,ho=>by
  rw[List.foldl_cons]
  refine Sx (fun c hc=>hl c (by simp[hc])) (fun y hy=>?_)
  unfold Fl XO at hy
  simp only[List.mem_append,List.mem_singleton]at hy
  rcases hy with (hy|hy)|hy
  ·exact ho y (List.mem_of_mem_take hy)
  ·rw[hy];exact hl b (by simp)
  ·exact ho y (List.mem_of_mem_drop hy)
theorem ZH (x:AQ) (out:List AQ):∀n,E2 x out n≤n
 | 0=>Nat.le_refl _
 | n+1=>by
  unfold E2
  split
  ·exact Nat.le_succ_of_le (ZH x out n)
  ·exact Nat.le_refl _
def Ax (d:List AJ):List AQ:=(A0 (Ad d)).foldl (PZ d) []
def Bt (d:List AJ):List AQ×Int :=
 if BE d≠0 then ([],BE d) else if 256<(A0 (Ad d)).length then ([],7) else (Ax d,0)
theorem cJ {s:ByteArray} {b:Bool} (h:EU s b=true):s.size≤32:=by
 unfold EU at h
 rw[Bool.and_eq_true]at h
 have h1:=h.1
 unfold PO at h1
 simp only[Bool.not_eq_true',Bool.or_eq_false_iff,decide_eq_false_iff_not]at h1
 have:=h1.1.1.2
 omega
theorem ZI {d:List AJ} (hn:DL d=0):∀s∈AR d,s.size≤32:=by
 intro s hs
 obtain⟨x,hx,rfl⟩:=Fk hs
 obtain⟨j,hj,rfl⟩:=DZ d0 hx
 exact cJ (Kj hn j hj).2
def JR (d:List AJ) (n:Nat):List (List Int):=((AR d).take n).map fun s=>GV d (AR d) s
theorem cK {d:List AJ} {n:Nat} (h:n≤(AR d).length):(JR d n).length=n:=by simp[JR,h]
theorem ZJ {d:List AJ} {n:Nat} (h:n<(AR d).length):JR d (n+1)=JR d n++[GV d (AR d) ((AR d).getD n ByteArray.empty)]:=by
 unfold JR
 rw[Ae _ ByteArray.empty h,List.map_append]
 rfl
theorem cL (d:List AJ):JR d (AR d).length=Ad d:=by simp[JR,Ad]
theorem cM (d:List AJ):(Ad d).length=(AR d).length:=by simp[Ad]
theorem Mu {d:List AJ} (h:d.length≤256):∀c∈Ad d,c.length≤64:=by
 intro c hc
 unfold Ad at hc
 obtain⟨s,-,rfl⟩:=List.mem_map.1 hc
 have hnl:=Er d d.length
 rw[List.take_length]at hnl
 exact(D6 (d:=d) (all:=AR d) (by omega) s 0).2.2
theorem ZK {i:Nat}:∀ {n k:Nat} {l:List (List Int)},(∀c∈l,c.length≤64)→∀c∈GQ i n k l,c.length≤64
 | 0,_,_,h=>h
 | n+1,k,l,h=>by
  unfold GQ
  split
  ·exact ZK (Y9 h i k)
  ·exact h
theorem OI:∀ {n i:Nat} {l:List (List Int)},(∀c∈l,c.length≤64)→∀c∈IL n i l,c.length≤64
 | 0,_,_,h=>h
 | n+1,i,l,h=>by
  unfold IL
  split
  ·exact OI (ZK h)
  ·exact h
theorem ZL {out:List AQ} {x y:AQ}:y∈XO out x↔y=x∨y∈out:=by
 unfold XO
 rw[List.mem_append,List.mem_append,List.mem_singleton]
 have h:=List.mem_append (a:=y) (s:=out.take (E2 x out out.length)) (t:=out.drop (E2 x out out.length))
 rw[List.take_append_drop]at h
 rw[h]
 constructor
 ·rintro ((h|h)|h)
  ·exact .inr (.inl h)
  ·exact .inl h
  ·exact .inr (.inr h)
 ·rintro (h|h|h)
  ·exact .inl (.inr h)
  ·exact .inl (.inl h)
  ·exact .inr h
def IM:Ac:={ ins:=[EK],pre:=fun _=>True,out:=fun(d,_)=>[.p Im (Bt d).1,.p Yp (Bt d).2] }
theorem OJ:Ai Tryz.prog 59 IM:=by
 refine AP Tryz.func59 (by kernel_rfl) rfl Tryz.ntmps59 (by decide) (by kernel_rfl) (AH [(88,Ny),(89,JO),(90,kZ),(91,RY),(92,RZ),(93,RW)]) (AE n9 (AE VH (AE A06 (AE oE (AE oH (AE oC AI)))))) ?_
 rintro w0 O0 ⟨d,u⟩ hc - -
 simp only[IM,AM]
 repeat'(first|exact trivial|refine eS rfl ?_|refine AB ?_|refine rX [0,2,3,4,5,6,7,8,9,10,11,12,13,17,24,41,45,73] hc ?_ ?_|refine rC ?_ ?_<;>intro AA<;>try(cases AA;done))
 ·have h1:Bt d=([],BE d):=by unfold Bt;rw[if_pos AA]
  exact AG hc [.tmp 2,.tmp 3] rfl (.inl rfl) (by simp) (by rw[h1];first|exact eR|refine Ap ?_)
 ·have h3:BE d=0:=by simpa using AA
  obtain⟨-,h2,-⟩:=A3 h3
  exact Nat.le_trans h2 (by decide)
 ·have h3:BE d=0:=by simpa using AA
  obtain⟨hsup,hd,-,hn,-⟩:=A3 h3
  have hal:=Er d d.length
  rw[List.take_length]at hal
  have hsz:=ZI hn
  refine AK (ι:={n:Nat//n≤(AR d).length}) (fun n=>⟨[(0,.p EK d),(5,.p Bq (AR d)),(6,.sr 36 A6 0 (JR d n.1).length),(7,.p (.int .i64) (n.1:Int))],[(36,.arr 107 A6 (JR d n.1))]⟩) (fun n=>(AR d).length-n.1) ⟨0,Nat.zero_le _⟩ (AC [(36,.nil)] rfl rfl ?_ ?_) (fun n=>?_)
  ·first|exact eN|refine eM ?_
   rfl
  ·first|exact eN|refine eM ?_
   rfl
  ·obtain⟨n,hnn⟩:=n
   have hcl:=cK hnn
   have hs:=fun h=>ZJ (d:=d) (n:=n) h
   simp only
   repeat'(first|exact trivial|refine eS rfl ?_|refine AB ?_|refine rX [0,2,3,4,5,6,7,8,9,10,11,12,13,17,24,41,45,73] hc ?_ ?_|refine rC ?_ ?_<;>intro AA<;>try(cases AA;done))
   ·refine⟨AA,⟨hd,by dsimp only[Ty.den]at *;omega⟩,?_⟩
    simp only[AO]
    dsimp only[Ty.den]at *
    omega
   ·exact eV
   ·have hn2:n<(AR d).length:=by exact eV
    have e:=hs hn2
    refine⟨⟨n+1,by omega⟩,by simp only;omega,AC [(36,.nm 36)] rfl rfl ?_ ?_⟩
    ·simp only[e]
     first|exact eN|refine eM ?_
    ·simp only[e]
     first|exact eN|refine eM ?_
   ·have hn2:n=(AR d).length:=by exact eV
    subst hn2
    rw[cL]
    have hcL:=cM d
    have hwid:=Mu hd
    have hfw:∀c∈A0 (Ad d),c.length≤64:=OI hwid
    refine Gb [36] ?_
    repeat'(first|exact trivial|refine eS rfl ?_|refine AB ?_|refine rX [0,2,3,4,5,6,7,8,9,10,11,12,13,17,24,41,45,73] hc ?_ ?_|refine rC ?_ ?_<;>intro AA<;>try(cases AA;done))
    ·exact⟨by omega,hwid⟩
    ·have h1:Bt d=([],7):=by
      unfold Bt
      rw[if_neg (by rw[h3];simp),if_pos (by omega)]
     exact AG hc [.tmp 2,.tmp 3] rfl (.inl rfl) (by simp) (by rw[h1];first|exact eR|refine Ap ?_)
    ·have hr:Bt d=((A0 (Ad d)).foldl (Fl d (AR d) (Ad d)) [],0):=by
      unfold Bt
      rw[if_neg (by rw[h3];simp),if_neg (by omega)]
      rfl
     generalize A0 (Ad d)=fam at *
     generalize Ad d=codes at *
     generalize AR d=all at *
     refine AK (ι:={k:Nat//k≤fam.length}) (fun k=>⟨[(0,.p EK d),(5,.p Bq all),(6,.p RC codes),(8,.p RC fam),(9,.sr 9 XA 0 ((fam.take k.1).foldl (Fl d all codes) []).length),(10,.p (.int .i64) (k.1:Int))],[(9,.arr 109 XA ((fam.take k.1).foldl (Fl d all codes) []))]⟩) (fun k=>fam.length-k.1) ⟨0,Nat.zero_le _⟩ (AC [(9,.nil)] rfl rfl ?_ ?_) (fun k=>?_)
     ·first|exact eN|refine eM ?_
      rfl
     ·first|exact eN|refine eM ?_
      rfl
     ·obtain⟨k,hk⟩:=k
      have hol:=Mt d all codes (fam.take k) []
      have htl:(fam.take k).length=k:=by rw[List.length_take];exact Nat.min_eq_left hk
      have how:=Sx (d:=d) (all:=all) (codes:=codes) (l:=fam.take k) (o:=[]) (fun c hc=>hfw c (List.mem_of_mem_take hc)) (by simp)
      have hss:=fun h:k<fam.length=>EL (Fl d all codes) fam [] [] h
      rw[htl]at hol
      simp only[List.length_nil,Nat.zero_add]at hol
      generalize ho:(fam.take k).foldl (Fl d all codes) []=out at *
      simp only
      repeat'(first|exact trivial|refine eS rfl ?_|refine AB ?_|refine rX [0,2,3,4,5,6,7,8,9,10,11,12,13,17,24,41,45,73] hc ?_ ?_|refine rC ?_ ?_<;>intro AA<;>try(cases AA;done))
      ·exact⟨AA,⟨hsup,hd,by omega,hcL,hsz,hwid,Kh hfw k⟩,AA⟩
      ·have hk2:k<fam.length:=by exact eV
       have e:=hss hk2
       have hbw:=Kh hfw k
       generalize fam.getD k []=b at *
       unfold Fl at e
       generalize HK d all codes b=nm at *
       refine AK (ι:={q:Nat//q≤out.length∧E2 (nm,b) out q=E2 (nm,b) out out.length}) (fun q=>⟨[(0,.p EK d),(5,.p Bq all),(6,.p RC codes),(8,.p RC fam),(9,.sr 9 XA 0 out.length),(10,.p (.int .i64) (k:Int)),(11,.bp 11 [] 0),(12,.p (.int .i64) (q.1:Int))],[(9,.arr 109 XA out),(11,.box 109 true [.p T9 nm,.p A6 b])]⟩) (fun q=>q.1) ⟨out.length,Nat.le_refl _,rfl⟩ (AC [(9,.nm 9),(11,.nm 11)] rfl rfl ?_ ?_) (fun q=>?_)
       ·first|exact eN|refine eM ?_
       ·first|exact eN|refine eM ?_
       ·obtain⟨q,hq,hins⟩:=q
        have hq:q≤out.length:=hq
        simp only
        repeat'(first|exact trivial|refine eS rfl ?_|refine AB ?_|refine rX [0,2,3,4,5,6,7,8,9,10,11,12,13,17,24,41,45,73] hc ?_ ?_|refine rC ?_ ?_<;>intro AA<;>try(cases AA;done))
        ·refine⟨fun h=>by omega,fun h=>by exact eV,fun h=>⟨Nat.le_trans hbw (by decide),Nat.le_trans (how _ (AD out c0 (k:=((q:Int)-1).toNat) (by omega))) (by decide)⟩⟩
        ·omega
        ·obtain⟨g1,g2⟩:=AA
         obtain⟨q,rfl⟩:∃r,q=r+1:=⟨q-1,by omega⟩
         have g3:((q+1:Nat):Int)-1=(q:Int):=by omega
         refine⟨⟨q,by omega,?_⟩,Nat.lt_succ_self q,AC [(9,.nm 9),(11,.nm 11)] rfl rfl ?_ ?_⟩
         ·rw[←hins]
          rw[g3,Int.toNat_natCast]at g2
          show _=if FK (nm,b) (out.getD q c0)=true then E2 (nm,b) out q else q+1
          rw[if_pos g2]
         ·first|exact eN|refine eM ?_
         ·first|exact eN|refine eM ?_
          show (q:Int)+1-1=q
          omega
        ·refine⟨Int.ofNat_le.2 hq,?_⟩
         rw[List.length_take]
         simp only[AO]
         omega
        ·rw[List.length_take]
         simp only[AO]
         omega
        ·refine⟨Int.ofNat_le.2 hq,?_⟩
         rw[List.length_take,List.length_drop]
         simp only[AO]
         omega
        ·omega
        ·have hpos:E2 (nm,b) out q=q:=by
          cases q with
          | zero=>rfl
          | succ q =>
           have g3:((q+1:Nat):Int)-1=(q:Int):=by omega
           have:=AA (by omega)
           rw[g3,Int.toNat_natCast]at this
           show (if FK (nm,b) (out.getD q c0)=true then E2 (nm,b) out q else q+1)=q+1
           rw[if_neg (by rw[this];simp)]
         unfold XO at e
         rw[←hins,hpos]at e
         refine⟨⟨k+1,by omega⟩,by simp only;omega,AC [(9,.nm 80)] rfl rfl ?_ ?_⟩
         ·first|exact eN|refine eM ?_
          exact e.symm
         ·first|exact eN|refine eM ?_
          have e2:=congrArg List.length e
          rw[List.length_append,List.length_append]at e2
          exact e2.symm
      ·have hk2:k=fam.length:=by exact eV
       rw[hk2,List.take_length]at ho
       rw[ho]at hr
       refine Gb [9] ?_
       exact AG hc [.tmp 2,.tmp 3] rfl (.inl rfl) (by simp) (by rw[hr];first|exact eR|refine Ap ?_)
end
/- Plain: each declared type has a number among the codes. -/
section
theorem VU {d:List AJ}:∀ {l:List (List Int)} {o:List AQ} {y:AQ},y∈l.foldl (PZ d) o↔y∈o∨∃b∈l,y=(HK d (AR d) (Ad d) b,b)
 | [],o,y=>by simp
 | b :: l,o,y=>by
  rw[List.foldl_cons,VU]
  unfold PZ Fl
  rw[ZL]
  simp only[List.mem_cons]
  constructor
  ·rintro ((h|h)|⟨c,hc,e⟩)
   ·exact .inr ⟨b,.inl rfl,h⟩
   ·exact .inl h
   ·exact .inr ⟨c,.inr hc,e⟩
  ·rintro (h|⟨c,rfl|hc,e⟩)
   ·exact .inl (.inr h)
   ·exact .inl (.inl e)
   ·exact .inr ⟨c,hc,e⟩
theorem DQ {d:List AJ} {y:AQ}:y∈Ax d↔∃b∈A0 (Ad d),y=(HK d (AR d) (Ad d) b,b):=by
 unfold Ax
 rw[VU]
 simp
theorem HL (d:List AJ):(Ax d).length=(A0 (Ad d)).length:=by
 have h:=Mt d (AR d) (Ad d) (A0 (Ad d)) []
 rw[List.length_nil,Nat.zero_add]at h
 exact h
theorem tN {l:List (List Int)} {i k:Nat} {c:List Int} (h:c∈l):c∈GP l i k:=by
 unfold GP
 split
 ·exact List.mem_append.2 (.inl h)
 ·exact h
theorem ZM {i:Nat} {c:List Int}:∀ {n k:Nat} {l:List (List Int)},c∈l→c∈GQ i n k l
 | 0,_,_,h=>h
 | n+1,k,l,h=>by
  unfold GQ
  split
  ·exact ZM (tN h)
  ·exact h
theorem ZN {c:List Int}:∀ {n i:Nat} {l:List (List Int)},c∈l→c∈IL n i l
 | 0,_,_,h=>h
 | n+1,i,l,h=>by
  unfold IL
  split
  ·exact ZN (ZM h)
  ·exact h
theorem Qf (d:List AJ) {i:Nat} (h:i<(AR d).length):(Ad d).getD i []=GV d (AR d) ((AR d).getD i ByteArray.empty):=by
 unfold Ad
 simp[List.getD_eq_getElem?_getD,h]
theorem k4 {d:List AJ} (hn:DL d=0) (hl:d.length≤(BZ d).length) (h2:d.length≤256) {j:Nat} (hj:j<(AR d).length):∀(m i:Nat) (l:List ByteArray),i+m=(AR d).length→i≤j →
  ∃s,nmG d (AR d) (Ad d) ((Ad d).getD j []) m i l=.inl s∧Ar s ((AR d).getD j ByteArray.empty)=true
 | 0,i,l,h,hij=>by omega
 | m+1,i,l,h,hij=>by
  unfold nmG
  split
  ·rename_i he
   refine⟨_,rfl,?_⟩
   rw[Qf d (by omega),Qf d hj]at he
   exact ZF hn hl h2 (by omega) hj he
  ·rename_i he
   have hne:i≠j:=by
    intro e
    subst e
    exact he (ZB _)
   exact k4 hn hl h2 hj m (i+1) _ (by omega) (by omega)
theorem k5 (s:ByteArray):∀(l:List AQ) (k:Nat),PT s k l<((k+l.length:Nat):Int)
 | [],k=>by simp only[PT];omega
 | x :: l,k=>by
  simp only[PT]
  split
  ·simp only[List.length_cons];omega
  ·have:=k5 s l (k+1)
   simp only[List.length_cons]
   omega
theorem k6 (s:ByteArray):∀(l:List AQ) (k:Nat) (x:AQ),x∈l→Ar x.1 s=true→0≤PT s k l
 | [],_,_,h,_=>by cases h
 | y :: l,k,x,h,e=>by
  simp only[PT]
  split
  ·omega
  ·rename_i hy
   rcases List.mem_cons.1 h with rfl|h
   ·exact absurd e hy
   ·exact k6 s l (k+1) x h e
theorem cN (l:List AQ) (s:ByteArray):Cv l s<(l.length:Int):=by
 have:=k5 s l 0
 rw[Nat.zero_add]at this
 exact this
theorem Qg {d:List AJ} (h:BE d=0) {s:ByteArray} (hs:Aa (AR d) s=true):0≤Cv (Ax d) s:=by
 obtain⟨-,h2,-,hn,hl⟩:=A3 h
 obtain⟨t,ht,e⟩:=List.any_eq_true.1 hs
 obtain⟨j,hj,rfl⟩:=DZ ByteArray.empty ht
 obtain⟨u,hu,eu⟩:=k4 hn hl h2 hj (AR d).length 0 [] (by omega) (by omega)
 have hlen:(Ad d).length=(AR d).length:=by simp[Ad]
 refine k6 s (Ax d) 0 (u,(Ad d).getD j []) ?_ (B2 eu e)
 rw[DQ]
 refine⟨(Ad d).getD j [],ZN (CS (by omega)),?_⟩
 unfold HK
 rw[hu]
theorem Qh {d:List AJ} (h:BE d=0) {x:AJ} (hx:x∈d):0≤Cv (Ax d) x.1:=Qg h (Ss hx)
theorem Be {d:List AJ} (h:(Bt d).2=0):BE d=0∧(A0 (Ad d)).length≤256∧(Bt d).1=Ax d:=by
 unfold Bt at h ⊢
 split at h
 ·rename_i h1;exact absurd h h1
 ·rename_i h1
  split at h
  ·cases h
  ·rename_i h2
   exact⟨Classical.byContradiction h1,by omega,by rw[if_neg h1,if_neg h2]⟩
theorem A0c {d:List AJ} (h:BE d=0):0<(Ax d).length:=by
 obtain⟨-,-,hr,-,-⟩:=A3 h
 cases d with
 | nil=>cases hr
 | cons x d =>
  have:=Qh h (x:=x) (by simp)
  have h2:=cN (Ax (x :: d)) x.1
  omega
end
/- Functions of grammarlabref04: Supers. -/
section
attribute [local go_sem] VL
def A1H (l:List AQ) (i k:Int) (m:Nat):Bool:=(m:Int)==i||(m:Int)==k||!L7 l k (m:Int)||!L7 l (m:Int) i
def oI (l:List AQ) (i k:Int) (n:Nat):Bool:=(List.range n).all (A1H l i k)
def oJ (l:List AQ) (i:Int) (k:Nat):Bool:=!((k:Int)==i||!L7 l (k:Int) i)&&oI l i (k:Int) l.length
def L9 (l:List AQ) (i:Int) (n:Nat):List Int:=((List.range n).filter fun(k:Nat)=>oJ l i k).map fun(k:Nat)=>(k:Int)
def ZO (l:List AQ) (i:Int):List Int:=L9 l i l.length
theorem cO (l:List AQ) (i:Int) (n:Nat):L9 l i (n+1)=L9 l i n++if oJ l i n=true then [(n:Int)] else []:=by
 unfold L9
 rw[List.range_succ,List.filter_append,List.map_append]
 congr 1
 rw[List.filter_cons,List.filter_nil]
 split<;>rfl
theorem oK (l:List AQ) (i:Int) (n:Nat):(L9 l i n).length≤n:=by
 unfold L9
 rw[List.length_map]
 exact Nat.le_trans (List.length_filter_le _ _) (by simp)
theorem oL (l:List AQ) (i k:Int) (n:Nat):oI l i k (n+1)=(oI l i k n&&A1H l i k n):=by
 unfold oI
 rw[List.range_succ,List.all_append]
 simp
def k7:Ac:={ ins:=[Im,T3],pre:=fun(l,i,_)=>((0:Int)≤i∧i<(List.length l:Int))∧List.length l≤256∧(∀x∈(l:List AQ),x.2.length≤64),out:=fun(l,i,_)=>[.p Bx (ZO l i)] }
theorem A0d:Ai Tryz.prog 60 k7:=by
 refine AP Tryz.func60 (by kernel_rfl) rfl Tryz.ntmps60 (by decide) (by kernel_rfl) (AH [(94,VL)]) (AE kY AI) ?_
 rintro w0 O0 ⟨l,i,u⟩ hc-⟨hi,hl,hx⟩
 have hl:l.length≤256:=hl
 have hx2:∀x∈(l:List AQ),x.2.length≤100000:=fun x h=>Nat.le_trans (hx x h) (by decide)
 simp only[k7,AM]
 repeat'(first|exact trivial|refine eS rfl ?_|refine AB ?_|refine rX [0,1,4,5,6,7,8,12,24,28,56] hc ?_ ?_|refine rC ?_ ?_<;>intro AA<;>try(cases AA;done))
 refine AK (ι:={k:Nat//k≤l.length}) (fun k=>⟨[(0,.p Im l),(1,.p T3 i),(5,.sr 60 T3 0 (L9 l i k.1).length),(6,.p (.int .i64) (k.1:Int))],[(60,.arr 3 T3 (L9 l i k.1))]⟩) (fun k=>l.length-k.1) ⟨0,Nat.zero_le _⟩ (AC [(60,.nil)] rfl rfl ?_ ?_) (fun k=>?_)
 ·first|exact eN|refine eM ?_
  rfl
 ·first|exact eN|refine eM ?_
  rfl
 ·obtain⟨k,hk⟩:=k
  have hk:k≤l.length:=hk
  have hz:=oK l i k
  have hs:=cO l i k
  simp only
  repeat'(first|exact trivial|refine eS rfl ?_|refine AB ?_|refine rX [0,1,4,5,6,7,8,12,24,28,56] hc ?_ ?_|refine rC ?_ ?_<;>intro AA<;>try(cases AA;done))
  ·intro h
   exact⟨by assumption,hi,hx2⟩
  ·exact eV
  ·have hk2:k<l.length:=by exact eV
   have hb:oJ l i k=false:=by
    unfold oJ
    rw[Bool.and_eq_false_iff]
    left
    rw[Bool.not_eq_false',Bool.or_eq_true,beq_iff_eq,Bool.not_eq_true']
    exact AA
   rw[hb,if_neg (by simp),List.append_nil]at hs
   refine⟨⟨k+1,by omega⟩,by simp only;omega,AC [(60,.nm 60)] rfl rfl ?_ ?_⟩
   ·simp only[hs]
    first|exact eN|refine eM ?_
   ·simp only[hs]
    first|exact eN|refine eM ?_
  ·have hk2:k<l.length:=by exact eV
   have hb:oJ l i k=oI l i (k:Int) l.length:=by
    unfold oJ
    rw[show ((k:Int)==i||!L7 l (k:Int) i)=false by
     rw[Bool.or_eq_false_iff,beq_eq_false_iff_ne,Bool.not_eq_false'];exact AA]
    rfl
   refine AK (ι:={m:Nat//m≤l.length}) (fun m=>⟨[(0,.p Im l),(1,.p T3 i),(5,.sr 60 T3 0 (L9 l i k).length),(6,.p (.int .i64) (k:Int)),(7,.p .bool (oI l i (k:Int) m.1)),(8,.p (.int .i64) (m.1:Int))],[(60,.arr 3 T3 (L9 l i k))]⟩) (fun m=>l.length-m.1) ⟨0,Nat.zero_le _⟩ (AC [(60,.nm 60)] rfl rfl ?_ ?_) (fun m=>?_)
   ·first|exact eN|refine eM ?_
   ·first|exact eN|refine eM ?_
    rfl
   ·obtain⟨m,hm⟩:=m
    have hm:m≤l.length:=hm
    have hds:=oL l i (k:Int) m
    simp only
    repeat'(first|exact trivial|refine eS rfl ?_|refine AB ?_|refine rX [0,1,4,5,6,7,8,12,24,28,56] hc ?_ ?_|refine rC ?_ ?_<;>intro AA<;>try(cases AA;done))
    ·exact⟨fun h=>⟨by assumption,AA,hx2⟩,fun h=>⟨AA,hi,hx2⟩⟩
    ·exact eV
    ·have hm2:m<l.length:=by exact eV
     refine⟨⟨m+1,by omega⟩,by simp only;omega,AC [(60,.nm 60)] rfl rfl ?_ ?_⟩
     ·first|exact eN|refine eM ?_
     ·simp only[hds]
      unfold A1H
      first|exact eN|refine eM ?_
    ·simp only[AO];dsimp only[Ty.den]at *;omega
    ·exact eV
    ·have hm2:m=l.length:=by exact eV
     subst hm2
     rw[hb,if_pos AA]at hs
     refine⟨⟨k+1,by omega⟩,by simp only;omega,AC [(60,.nm 60)] rfl rfl ?_ ?_⟩
     ·simp only[hs]
      first|exact eN|refine eM ?_
     ·simp only[hs]
      first|exact eN|refine eM ?_
    ·exact eV
    ·have hm2:m=l.length:=by exact eV
     subst hm2
     rw[hb,if_neg (by rw[AA];simp),List.append_nil]at hs
     refine⟨⟨k+1,by omega⟩,by simp only;omega,AC [(60,.nm 60)] rfl rfl ?_ ?_⟩
     ·simp only[hs]
      first|exact eN|refine eM ?_
     ·simp only[hs]
      first|exact eN|refine eM ?_
  ·have hk2:k=l.length:=by exact eV
   subst hk2
   refine Gb [60] ?_
   exact AG hc [.tmp 4] rfl (.inl rfl) (by simp) (by unfold ZO;first|exact eR|refine Ap ?_)
end
/- Functions of grammarlabref05: declarations. -/
section
attribute [local go_sem] JO Nw Dj
abbrev FV:=ByteArray×ByteArray
abbrev f0V:FV:=(ByteArray.empty,ByteArray.empty)
def qF (all:List ByteArray) (l:List FV):Nat→List FV→Int
 | _,[]=>0
 | k,x :: r=>if EU x.1 true=false then 1 else if ((l.take k).any fun y=>Ar y.1 x.1)=true then 4 else if Aa all x.2=false then 5 else qF all l (k+1) r
def XP (all:List ByteArray):List AJ→Int
 | []=>0
 | x :: l=>if qF all x.2.2 0 x.2.2≠0 then qF all x.2.2 0 x.2.2 else XP all l
def Kk (d:List AJ):Int:=XP (AR d) d
theorem tP (all:List ByteArray) (l:List FV) {k:Nat} (h:k<l.length):qF all l k (l.drop k)=if EU (l.getD k f0V).1 true=false then 1 else if ((l.take k).any fun y=>Ar y.1 (l.getD k f0V).1)=true then 4 else if Aa all (l.getD k f0V).2=false then 5 else qF all l (k+1) (l.drop (k+1)):=by
 rw[List.drop_eq_getElem_cons h]
 have e:l.getD k f0V=l[k]:=by simp[List.getD_eq_getElem?_getD,h]
 rw[e]
 rfl
theorem oM (all:List ByteArray) (l:List AJ) {k:Nat} (h:k<l.length):XP all (l.drop k)=if qF all (l.getD k d0).2.2 0 (l.getD k d0).2.2≠0 then qF all (l.getD k d0).2.2 0 (l.getD k d0).2.2 else XP all (l.drop (k+1)):=by
 rw[List.drop_eq_getElem_cons h]
 have e:l.getD k d0=l[k]:=by simp[List.getD_eq_getElem?_getD,h]
 rw[e]
 rfl
def XQ:Ac:={ ins:=[EK],pre:=fun(d,_)=>List.length d≤256,out:=fun(d,_)=>[.p Yp (Kk d)] }
theorem tQ:Ai Tryz.prog 121 XQ:=by
 refine AP Tryz.func121 (by kernel_rfl) rfl Tryz.ntmps121 (by decide) (by kernel_rfl) (AH [(89,JO),(149,Nw),(131,Dj)]) (AE VH (AE b7 (AE GB AI))) ?_
 rintro w0 O0 ⟨d,u⟩ hc ⟨⟨hdl,hall⟩,-⟩ hd
 have hd:d.length≤256:=hd
 simp only[XQ,AM]
 repeat'(first|exact trivial|refine eS rfl ?_|refine AB ?_|refine rX [0,2,3,4,5,6,7,13,24,33,36,49,57] hc ?_ ?_|refine rC ?_ ?_<;>intro AA<;>try(cases AA;done))
 ·exact Nat.le_trans hd (by decide)
 ·have hdf:Kk d=XP (AR d) d:=rfl
  rw[hdf]
  generalize AR d=all at *
  refine AK (ι:={i:Nat//i≤d.length∧XP all (d.drop i)=XP all d}) (fun i=>⟨[(0,.p EK d),(3,.p Bq all),(4,.p (.int .i64) (i.1:Int))],[]⟩) (fun i=>d.length-i.1) ⟨0,Nat.zero_le _,rfl⟩ (AC [] rfl rfl ?_ ?_) (fun i=>?_)
  ·first|exact eN|refine eM ?_
  ·first|exact eN|refine eM ?_
  ·obtain⟨i,hi,hf⟩:=i
   simp only
   repeat'(first|exact trivial|refine eS rfl ?_|refine AB ?_|refine rX [0,2,3,4,5,6,7,13,24,33,36,49,57] hc ?_ ?_|refine rC ?_ ?_<;>intro AA<;>try(cases AA;done))
   ·exact AA
   ·have hi2:i<d.length:=by exact eV
    rw[oM all d hi2]at hf
    have hfl:(d.getD i d0).2.2.length≤AO:=(hall _ (AD d d0 hi2)).2.2.1
    have hfe:(List.getD d i (ByteArray.empty,[],[])).2.2=(d.getD i d0).2.2:=rfl
    rw[hfe]
    generalize (d.getD i d0).2.2=l at *
    simp only[AO]at hfl
    refine AK (ι:={k:Nat//k≤l.length∧qF all l k (l.drop k)=qF all l 0 l}) (fun k=>⟨[(0,.p EK d),(3,.p Bq all),(4,.p (.int .i64) (i:Int)),(5,.p Yr l),(6,.p (.int .i64) (k.1:Int))],[]⟩) (fun k=>l.length-k.1) ⟨0,Nat.zero_le _,rfl⟩ (AC [] rfl rfl ?_ ?_) (fun k=>?_)
    ·first|exact eN|refine eM ?_
    ·first|exact eN|refine eM ?_
    ·obtain⟨k,hk,hg⟩:=k
     have hstep:=fun h:k<l.length=>tP all l h
     simp only
     repeat'(first|exact trivial|refine eS rfl ?_|refine AB ?_|refine rX [0,2,3,4,5,6,7,13,24,33,36,49,57] hc ?_ ?_|refine rC ?_ ?_<;>intro AA<;>try(cases AA;done))
     ·exact AA
     ·have hk2:k<l.length:=by exact eV
      rw[hstep hk2,if_pos AA]at hg
      rw[←hg,if_pos (by decide)]at hf
      exact AG hc [.tmp 2] rfl (.inl rfl) (by simp) (by rw[←hf];first|exact eR|refine Ap ?_)
     ·have hk2:k<l.length:=by exact eV
      have hkI:(k:Int)<(l.length:Int):=Int.ofNat_lt.2 hk2
      rw[hstep hk2,if_neg (by rw[AA];simp)]at hg
      refine AK (ι:={m:Nat//m≤k∧((l.take m).any fun y=>Ar y.1 (l.getD k f0V).1)=false}) (fun m=>⟨[(0,.p EK d),(3,.p Bq all),(4,.p (.int .i64) (i:Int)),(5,.p Yr l),(6,.p (.int .i64) (k:Int)),(7,.p (.int .i64) (m.1:Int))],[]⟩) (fun m=>k-m.1) ⟨0,Nat.zero_le _,rfl⟩ (AC [] rfl rfl ?_ ?_) (fun m=>?_)
      ·first|exact eN|refine eM ?_
      ·first|exact eN|refine eM ?_
      ·obtain⟨m,hm,hany⟩:=m
       have hstep2:=fun h:m<l.length=>LR l f0V (fun y=>Ar y.1 (l.getD k f0V).1) h
       simp only
       repeat'(first|exact trivial|refine eS rfl ?_|refine AB ?_|refine rX [0,2,3,4,5,6,7,13,24,33,36,49,57] hc ?_ ?_|refine rC ?_ ?_<;>intro AA<;>try(cases AA;done))
       ·have h1:(m:Int)<(k:Int):=AA
        exact⟨by exact eV,hkI⟩
       ·have hm2:m<k:=Int.ofNat_lt.1 (by assumption)
        have h2:=hstep2 (by omega)
        have h3:((l.take k).any fun y=>Ar y.1 (l.getD k f0V).1)=true:=by
         rw[List.any_eq_true]
         exact⟨l.getD m f0V,by
          rw[List.mem_take_iff_getElem]
          refine⟨m,by omega,?_⟩
          simp[List.getD_eq_getElem?_getD,show m<l.length by omega],AA⟩
        rw[if_pos h3]at hg
        rw[←hg,if_pos (by decide)]at hf
        exact AG hc [.tmp 2] rfl (.inl rfl) (by simp) (by rw[←hf];first|exact eR|refine Ap ?_)
       ·omega
       ·have hm2:m<k:=Int.ofNat_lt.1 (by assumption)
        have h2:=hstep2 (by omega)
        refine⟨⟨m+1,by omega,?_⟩,by simp only;omega,AC [] rfl rfl ?_ ?_⟩
        ·rw[h2,hany]
         exact AA
        ·first|exact eN|refine eM ?_
        ·first|exact eN|refine eM ?_
       ·exact hkI
       ·have hm2:m=k:=by omega
        subst hm2
        rw[if_neg (by rw[hany];simp),if_pos AA]at hg
        rw[←hg,if_pos (by decide)]at hf
        exact AG hc [.tmp 2] rfl (.inl rfl) (by simp) (by rw[←hf];first|exact eR|refine Ap ?_)
       ·have:=hdl
        simp only[AO]at this
        omega
       ·have hm2:m=k:=by omega
        subst hm2
        rw[if_neg (by rw[hany];simp),if_neg (by rw[AA];simp)]at hg
        refine⟨⟨m+1,by omega,hg⟩,by simp only;omega,AC [] rfl rfl ?_ ?_⟩
        ·first|exact eN|refine eM ?_
        ·first|exact eN|refine eM ?_
     ·omega
     ·have hk2:l.drop k=[]:=List.drop_eq_nil_of_le (Int.ofNat_le.1 AA)
      rw[hk2]at hg
      rw[←hg,if_neg (by simp[qF])]at hf
      refine⟨⟨i+1,by omega,hf⟩,by simp only;omega,AC [] rfl rfl ?_ ?_⟩
      ·first|exact eN|refine eM ?_
      ·first|exact eN|refine eM ?_
   ·have hk2:d.drop i=[]:=List.drop_eq_nil_of_le (by exact eV)
    rw[hk2]at hf
    exact AG hc [.tmp 2] rfl (.inl rfl) (by simp) (by rw[←hf];first|exact eR|refine Ap ?_;rfl)
end
/- Functions of grammarlabref05: intro. -/
section
attribute [local go_sem] PU Mh HH cs0
def Qi (s:ByteArray) (o:List ByteArray) (x:AJ):List ByteArray:=if (Fj x s).2=true then Dk o x.1 else o
def QQQ (d:List AJ) (s:ByteArray):List ByteArray:=d.foldl (Qi s) []
theorem cQ (s:ByteArray) (d:List AJ) (k:Nat):(QQQ (d.take k) s).length≤k:=by
 have key:∀(l:List AJ) (o:List ByteArray),(l.foldl (Qi s) o).length≤o.length+l.length:=by
  intro l
  induction l with
  | nil=>intro o;simp
  | cons x l ih =>
   intro o
   have h1:=ih (Qi s o x)
   have h2:(Qi s o x).length≤o.length+1:=by
    unfold Qi
    split
    ·exact Ka o x.1
    ·omega
   simp only[List.foldl_cons,List.length_cons]
   omega
 have h1:=key (d.take k) []
 have h2:=List.length_take_le k d
 unfold QQQ
 simp only[List.length_nil]at h1
 omega
def Fm (d:List AJ) (s:ByteArray):ByteArray×Bool:=if (Bw d (QQQ d s)).length=1 then ((Bw d (QQQ d s)).getD 0 ByteArray.empty,true) else (ByteArray.empty,false)
def Pa:Ac:={ ins:=[EK,T9],pre:=fun(d,_,_)=>Sg d∧List.length d≤256,out:=fun(d,s,_)=>[.p T9 (Fm d s).1,.p .bool (Fm d s).2] }
theorem ZP:Ai Tryz.prog 95 Pa:=by
 refine AP Tryz.func95 (by kernel_rfl) rfl Tryz.ntmps95 (by decide) (by kernel_rfl) (AH [(123,PU),(122,Mh),(136,HH)]) (AE Y7 (AE PP (AE Sk AI))) ?_
 rintro w0 O0 ⟨d,s,u⟩ hc-⟨hsup,hd⟩
 have hd:d.length≤256:=hd
 simp only[Pa,AM]
 repeat'(first|exact trivial|refine eS rfl ?_|refine AB ?_|refine rX [0,1,4,5,6,7,9,10,14,26,39] hc ?_ ?_|refine rC ?_ ?_<;>intro AA<;>try(cases AA;done))
 refine AK (ι:={i:Nat//i≤d.length}) (fun i=>⟨[(0,.p EK d),(1,.p T9 s),(6,.p Bq (QQQ (d.take i.1) s)),(7,.p (.int .i64) (i.1:Int))],[]⟩) (fun i=>d.length-i.1) ⟨0,Nat.zero_le _⟩ (AC [] rfl rfl ?_ ?_) (fun i=>?_)
 ·first|exact eN|refine eM ?_
 ·first|exact eN|refine eM ?_
  rfl
 ·obtain⟨i,hi⟩:=i
  have hi:i≤d.length:=hi
  have hn:=cQ s d i
  have hs:=fun h:i<d.length=>EL (Qi s) d d0 [] h
  have hfe:∀e,QQQ e s=e.foldl (Qi s) []:=fun _=>rfl
  rw[←hfe,←hfe]at hs
  unfold Qi at hs
  simp only
  repeat'(first|exact trivial|refine eS rfl ?_|refine AB ?_|refine rX [0,1,4,5,6,7,9,10,14,26,39] hc ?_ ?_|refine rC ?_ ?_<;>intro AA<;>try(cases AA;done))
  ·exact AA
  ·exact⟨by assumption,by omega⟩
  ·exact eV
  ·have hi2:i<d.length:=by exact eV
   have e:=hs hi2
   rw[if_pos AA]at e
   refine⟨⟨i+1,by omega⟩,by simp only;omega,AC [] rfl rfl ?_ ?_⟩
   ·first|exact eN|refine eM ?_
   ·simp only[e]
    first|exact eN|refine eM ?_
  ·exact eV
  ·have hi2:i<d.length:=by exact eV
   have e:=hs hi2
   rw[if_neg (by rw[AA];simp)]at e
   refine⟨⟨i+1,by omega⟩,by simp only;omega,AC [] rfl rfl ?_ ?_⟩
   ·first|exact eN|refine eM ?_
   ·simp only[e]
    first|exact eN|refine eM ?_
  ·exact⟨hsup,hd,by omega⟩
  ·have hi2:d.take i=d:=List.take_of_length_le (by exact eV)
   rw[hi2]at AA ⊢
   have h1:Fm d s=(ByteArray.empty,false):=by
    unfold Fm
    rw[if_neg (by omega)]
   exact AG hc [.tmp 4,.tmp 5] rfl (.inl rfl) (by simp) (by rw[h1];first|exact eR|refine Ap ?_;first|rfl|exact⟨rfl,rfl⟩)
  ·have h2:((Bw d (QQQ (d.take i) s)).length:Int)=1:=by simpa using AA
   have h3:(0:Int)<((Bw d (QQQ (d.take i) s)).length:Int):=by rw[h2];decide
   exact h3
  ·have hi2:d.take i=d:=List.take_of_length_le (by exact eV)
   rw[hi2]at AA ⊢
   have h2:((Bw d (QQQ d s)).length:Int)=1:=by simpa using AA
   have h1:Fm d s=((Bw d (QQQ d s)).getD 0 ByteArray.empty,true):=by
    unfold Fm
    rw[if_pos (by omega)]
   exact AG hc [.tmp 4,.tmp 5] rfl (.inl rfl) (by simp) (by rw[h1];first|exact eR|refine Ap ?_)
end
/- Functions of grammarlabref05: inherited. -/
section
attribute [local go_sem] PU LV VL Yy
def UP (l:List AQ) (t:Int) (s:ByteArray) (o:List Int×Bool) (x:AJ):List Int×Bool :=
 if (!(Fj x s).2||!L7 l (Cv l x.1) t)=true then o else (FT o.1 (l.getD (Cv l (Fj x s).1).toNat c0).2,true)
def Sy (d:List AJ) (l:List AQ) (t:Int) (s:ByteArray):List Int×Bool:=d.foldl (UP l t s) ((l.getD 0 c0).2,false)
def A0f (d:List AJ) (l:List AQ):Prop:=(∀x∈d,0≤Cv l x.1)∧∀x∈d,∀y∈x.2.2,0≤Cv l y.2
theorem ZQ (s:ByteArray):∀(l:List (ByteArray×ByteArray)),(Y6 s l).2=true→∃y∈l,y.2=(Y6 s l).1
 | [],h=>by cases h
 | x :: l,h=>by
  simp only[Y6]at h ⊢
  split at h
  ·rename_i h1
   rw[if_pos h1]
   exact⟨x,by simp,rfl⟩
  ·rename_i h1
   rw[if_neg h1]
   obtain⟨y,hy,e⟩:=ZQ s l h
   exact⟨y,by simp[hy],e⟩
theorem A0f.value {d:List AJ} {l:List AQ} (h:A0f d l) {x:AJ} (hx:x∈d) {s:ByteArray} (hv:(Fj x s).2=true):0≤Cv l (Fj x s).1:=by
 obtain⟨y,hy,e⟩:=ZQ s x.2.2 hv
 have:=h.2 x hx y hy
 rw[e]at this
 exact this
theorem tR {l:List AQ} (t:Int) (s:ByteArray) (x:AJ) {o:List Int×Bool} (h:o.1.length≤64):(UP l t s o x).1.length≤64:=by
 unfold UP
 split
 ·exact h
 ·exact Nat.le_trans (Y8 _ _) h
theorem Sz {l:List AQ} (t:Int) (s:ByteArray):∀(d:List AJ) {o:List Int×Bool},o.1.length≤64→(d.foldl (UP l t s) o).1.length≤64
 | [],_,h=>h
 | x :: d,_,h=>by rw[List.foldl_cons];exact Sz t s d (tR t s x h)
theorem ZR (s:ByteArray):∀(l:List AQ) (k:Nat),PT s k l<((k+l.length:Nat):Int)
 | [],k=>by simp only[PT];omega
 | x :: l,k=>by
  simp only[PT]
  split
  ·simp only[List.length_cons];omega
  ·have:=ZR s l (k+1)
   simp only[List.length_cons]
   omega
theorem Qj (l:List AQ) (s:ByteArray):Cv l s<(l.length:Int):=by
 have:=ZR s l 0
 rw[Nat.zero_add]at this
 exact this
def oO:Ac:={ ins:=[EK,Im,T3,T9],pre:=fun(d,l,t,_,_)=>A0f d l∧((0:Int)≤t∧t<(List.length l:Int))∧List.length l≤256∧(∀x∈(l:List AQ),x.2.length≤64),out:=fun(d,l,t,s,_)=>[.p A6 (Sy d l t s).1,.p .bool (Sy d l t s).2] }
theorem tS:Ai Tryz.prog 86 oO:=by
 refine AP Tryz.func86 (by kernel_rfl) rfl Tryz.ntmps86 (by decide) (by kernel_rfl) (AH [(123,PU),(96,LV),(94,VL),(100,Yy)]) (AE Y7 (AE VN (AE kY (AE b9 AI)))) ?_
 rintro w0 O0 ⟨d,l,t,s,u⟩ hc ⟨⟨hdl,hall⟩,-⟩ ⟨hnum,ht,hl,hx⟩
 have hl:l.length≤256:=hl
 have hx2:∀x∈(l:List AQ),x.2.length≤100000:=fun x h=>Nat.le_trans (hx x h) (by decide)
 have hlp:0<List.length l:=Int.ofNat_lt.1 (Int.lt_of_le_of_lt ht.1 ht.2)
 simp only[AO]at hdl
 simp only[oO,AM]
 repeat'(first|exact trivial|refine eS rfl ?_|refine AB ?_|refine rX [0,1,2,3,8,9,10,11,12,13,14,22,48] hc ?_ ?_|refine rC ?_ ?_<;>intro AA<;>try(cases AA;done))
 ·exact Int.ofNat_lt.2 hlp
 ·have hif:Sy d l t s=d.foldl (UP l t s) ((l.getD 0 c0).2,false):=rfl
  have hc0:(l.getD 0 c0).2.length≤64:=hx _ (AD l c0 hlp)
  have hc1:(List.getD l 0 (ByteArray.empty,[])).2=(l.getD 0 c0).2:=rfl
  rw[hc1]
  generalize (l.getD 0 c0).2=b0 at *
  refine AK (ι:={i:Nat//i≤d.length}) (fun i=>⟨[(0,.p EK d),(1,.p Im l),(2,.p T3 t),(3,.p T9 s),(10,.p .bool ((d.take i.1).foldl (UP l t s) (b0,false)).2),(11,.p A6 ((d.take i.1).foldl (UP l t s) (b0,false)).1),(12,.p (.int .i64) (i.1:Int))],[]⟩) (fun i=>d.length-i.1) ⟨0,Nat.zero_le _⟩ (AC [] rfl rfl ?_ ?_) (fun i=>?_)
  ·first|exact eN|refine eM ?_
  ·first|exact eN|refine eM ?_
   exact⟨rfl,rfl⟩
  ·obtain⟨i,hi⟩:=i
   have hi:i≤d.length:=hi
   have hlen:=Sz (l:=l) t s (d.take i) (o:=(b0,false)) hc0
   have hs:=fun h:i<d.length=>EL (UP l t s) d d0 (b0,false) h
   have hnx:=fun h:i<d.length=>hnum.1 _ (AD d d0 h)
   have hnv:=fun(h:i<d.length) (g:(Fj (d.getD i d0) s).2=true)=>hnum.value (AD d d0 h) g
   have hia:∀o x,UP l t s o x=(if (!(Fj x s).2||!L7 l (Cv l x.1) t)=true then o else (FT o.1 (l.getD (Cv l (Fj x s).1).toNat c0).2,true)):=fun _ _=>rfl
   generalize ho:(d.take i).foldl (UP l t s) (b0,false)=o at *
   simp only
   repeat'(first|exact trivial|refine eS rfl ?_|refine AB ?_|refine rX [0,1,2,3,8,9,10,11,12,13,14,22,48] hc ?_ ?_|refine rC ?_ ?_<;>intro AA<;>try(cases AA;done))
   ·exact AA
   ·have hi2:i<d.length:=Int.ofNat_lt.1 AA
    exact⟨fun _=>AA,fun _=>⟨⟨hnx hi2,Qj _ _⟩,ht,hx2⟩⟩
   ·exact eV
   ·have hi2:i<d.length:=Int.ofNat_lt.1 (by assumption)
    have e:=hs hi2
    rw[hia,if_pos (by rw[Bool.or_eq_true,Bool.not_eq_true',Bool.not_eq_true'];exact AA)]at e
    refine⟨⟨i+1,by omega⟩,by simp only;omega,AC [] rfl rfl ?_ ?_⟩
    ·first|exact eN|refine eM ?_
    ·first|exact eN|refine eM ?_
     rw[e]
     exact⟨rfl,rfl⟩
   ·have hi2:i<d.length:=Int.ofNat_lt.1 (by assumption)
    exact⟨⟨hnv hi2 AA.1,Qj _ _⟩,Nat.le_trans hlen (by decide)⟩
   ·exact eV
   ·have hi2:i<d.length:=Int.ofNat_lt.1 (by assumption)
    have e:=hs hi2
    have hneg:¬(!(Fj (d.getD i d0) s).2||!L7 l (Cv l (d.getD i d0).1) t)=true:=by
     rw[Bool.or_eq_true,Bool.not_eq_true',Bool.not_eq_true']
     rintro (h|h)
     ·rw[show (Fj (d.getD i d0) s).2=true from AA.1]at h;cases h
     ·rw[show L7 l (Cv l (d.getD i d0).1) t=true from AA.2]at h;cases h
    rw[hia,if_neg hneg]at e
    refine⟨⟨i+1,by omega⟩,by simp only;omega,AC [] rfl rfl ?_ ?_⟩
    ·first|exact eN|refine eM ?_
    ·first|exact eN|refine eM ?_
     rw[e]
     exact⟨rfl,rfl⟩
   ·have hi2:d.take i=d:=List.take_of_length_le (Int.ofNat_le.1 AA)
    rw[hi2]at ho
    rw[ho]at hif
    exact AG hc [.tmp 8,.tmp 9] rfl (.inl rfl) (by simp) (by rw[hif];first|exact eR|refine Ap ?_)
end
/- Plain: what passes grammarlabref04.Codes and the checks of grammarlabref05. -/
section
theorem Qk:∀ {l:List AJ},KY l=0→∀x∈l,x.2.1.length≤256∧x.2.2.length≤256
 | [],_,x,hx=>by cases hx
 | y :: l,h,x,hx=>by
  simp only[KY]at h
  split at h
  ·cases h
  ·rename_i h1
   rcases List.mem_cons.1 hx with rfl|hx
   ·exact⟨by omega,by omega⟩
   ·exact Qk h x hx
theorem JS {d:List AJ} (h:BE d=0):∀x∈d,x.2.1.length≤256∧x.2.2.length≤256:=by
 have h1:EV d=0:=by
  unfold BE at h
  split at h
  ·rename_i h1;exact absurd h h1
  ·rename_i h1;exact Classical.byContradiction h1
 unfold EV at h1
 split at h1
 ·cases h1
 ·exact Qk h1
theorem Mv {d:List AJ} (h:BE d=0):∀x∈Ax d,x.2.length≤64:=by
 intro x hx
 obtain⟨-,h2,-⟩:=A3 h
 obtain⟨b,hb,rfl⟩:=DQ.1 hx
 exact OI (Mu h2) b hb
theorem ZS {all:List ByteArray} {l:List FV}:∀ {r:List FV} {k:Nat},qF all l k r=0→∀y∈r,Aa all y.2=true
 | [],_,_,y,hy=>by cases hy
 | x :: r,k,h,y,hy=>by
  simp only[qF]at h
  split at h
  ·cases h
  ·split at h
   ·cases h
   ·split at h
    ·cases h
    ·rename_i h3
     rcases List.mem_cons.1 hy with rfl|hy
     ·simpa using h3
     ·exact ZS h y hy
theorem VV {all:List ByteArray}:∀ {l:List AJ},XP all l=0→∀x∈l,∀y∈x.2.2,Aa all y.2=true
 | [],_,x,hx=>by cases hx
 | z :: l,h,x,hx=>by
  simp only[XP]at h
  split at h
  ·rename_i h1;exact absurd h h1
  ·rename_i h1
   rcases List.mem_cons.1 hx with rfl|hx
   ·exact ZS (Classical.byContradiction h1)
   ·exact VV h x hx
theorem k8 {d:List AJ} (h:BE d=0) (h2:Kk d=0):A0f d (Ax d) :=
 ⟨fun x hx=>Qh h hx,fun x hx y hy=>Qg h (VV h2 x hx y hy)⟩
end
/- Plain: the codes of a hierarchy are closed under intersections. -/
section
theorem S0 (l:List (List Int)) (i k:Nat):l <+: GP l i k:=by
 unfold GP
 split
 ·exact List.prefix_append _ _
 ·exact List.prefix_refl _
theorem S1 (i:Nat):∀(n k:Nat) (l:List (List Int)),l <+: GQ i n k l
 | 0,_,l=>List.prefix_refl l
 | n+1,k,l=>by
  unfold GQ
  split
  ·exact(S0 l i k).trans (S1 i n (k+1) _)
  ·exact List.prefix_refl l
theorem S2:∀(n i:Nat) (l:List (List Int)),l <+: IL n i l
 | 0,_,l=>List.prefix_refl l
 | n+1,i,l=>by
  unfold IL
  split
  ·exact(S1 i i 0 l).trans (S2 n (i+1) _)
  ·exact List.prefix_refl l
theorem OK {l m:List (List Int)} (h:l <+: m) {k:Nat} (hk:k<l.length):m.getD k []=l.getD k []:=by
 obtain⟨t,rfl⟩:=h
 simp only[List.getD_eq_getElem?_getD]
 rw[List.getElem?_append_left hk]
def Jo (l:List (List Int)) (q p:Nat):Prop:=FT (l.getD q []) (l.getD p [])=[]∨FT (l.getD q []) (l.getD p [])∈l
theorem Jo.pre {l m:List (List Int)} (h:l <+: m) {q p:Nat} (hq:q<l.length) (hp:p<l.length) (hm:Jo l q p):Jo m q p:=by
 unfold Jo at hm ⊢
 rw[OK h hq,OK h hp]
 rcases hm with hm|hm
 ·exact .inl hm
 ·exact .inr (h.subset hm)
theorem A0g {l:List (List Int)} {b:List Int} (h:cC l b=true):b∈l:=by
 obtain⟨x,hx,e⟩:=List.any_eq_true.1 h
 have:x=b:=by simpa[HB] using e
 rw[←this]
 exact hx
theorem cR {l:List (List Int)} {i k:Nat} (hi:i<l.length) (hk:k<l.length):Jo (GP l i k) i k:=by
 have hp:=S0 l i k
 unfold Jo
 rw[OK hp hi,OK hp hk]
 unfold GP
 split
 ·right;simp
 ·rename_i hc
  rw[Bool.and_eq_true,decide_eq_true_eq,Bool.not_eq_true']at hc
  by_cases h0:0<((FT (l.getD i []) (l.getD k [])).length:Int)
  ·right
   cases hh:cC l (FT (l.getD i []) (l.getD k [])) with
   | true=>exact A0g hh
   | false=>exact absurd ⟨h0,hh⟩ hc
  ·left
   exact List.eq_nil_of_length_eq_zero (by omega)
theorem S3 {i:Nat}:∀ {n k:Nat} {l:List (List Int)},n+k=i→i<l.length→(GQ i n k l).length≤256→(∀p,p<k→Jo l i p)→∀p,p<i→Jo (GQ i n k l) i p
 | 0,k,l,hn,hi,hl,h=>fun p hp=>h p (by omega)
 | n+1,k,l,hn,hi,hl,h=>by
  unfold GQ at hl ⊢
  split at hl
  ·rename_i hc
   rw[if_pos hc]
   have hp:=S0 l i k
   refine S3 (by omega) (Nat.lt_of_lt_of_le hi hp.length_le) hl fun p hpk=>?_
   by_cases e:p=k
   ·subst e
    exact cR hi (by omega)
   ·exact(h p (by omega)).pre hp hi (by omega)
  ·rename_i hc
   exact absurd (by omega:l.length≤256) hc
theorem S4:∀ {n i:Nat} {l:List (List Int)},257≤n+i→(IL n i l).length≤256→i≤l.length→(∀q p,p<q→q<i→Jo l q p)→∀q p,p<q→q<(IL n i l).length→Jo (IL n i l) q p
 | 0,i,l,hn,hl,hil,h=>fun q p hpq hq=>by
  have hl':l.length≤256:=hl
  omega
 | n+1,i,l,hn,hl,hil,h=>by
  unfold IL at hl ⊢
  split at hl
  ·rename_i hc
   rw[if_pos hc]
   have hp:=S1 i i 0 l
   have hpl:=hp.length_le
   have hgl:=(S2 n (i+1) (GQ i i 0 l)).length_le
   refine S4 (by omega) hl (by omega) fun q p hpq hq=>?_
   by_cases e:q=i
   ·subst e
    exact S3 (by omega) hc.1 (by omega) (fun p hp=>by omega) p hpq
   ·exact(h q p hpq (by omega)).pre hp (by omega) (by omega)
  ·rename_i hc
   rw[if_neg hc]
   intro q p hpq hq
   exact h q p hpq (by
    refine Classical.byContradiction fun hh=>hc ⟨by omega,hl⟩)
theorem XR {c:List (List Int)} (hl:(A0 c).length≤256):∀q p,p<q→q<(A0 c).length→Jo (A0 c) q p :=
 S4 (by omega) hl (Nat.zero_le _) (fun q p _ h=>by omega)
/-! Bits -/
theorem tT (a b:List Int) (k:Nat):(FT a b).getD k 0=if k<a.length then CJ .and .u64 (a.getD k 0) (b.getD k 0) else 0:=by
 unfold FT
 rw[OD]
 split
 ·rename_i h;exact LW .and a b h
 ·rename_i h
  rw[List.getD_eq_getElem?_getD,List.getElem?_eq_none (by rw[D5];omega)]
  rfl
theorem GC {b:List Int} {k:Nat} (h:¬k<b.length):b.getD k 0=0:=by
 rw[List.getD_eq_getElem?_getD,List.getElem?_eq_none (by omega)];rfl
theorem Ra {a b:List Int} (ha:Hu a) (hb:Hu b) (i:Nat):BK (FT a b) i=(BK a i&&BK b i):=by
 unfold BK
 rw[tT]
 split
 ·rw[HI (A4 ha _) (A4 hb _),Int.toNat_natCast,Nat.testBit_and]
 ·rename_i h
  rw[GC h]
  simp
theorem XS {a b:List Int} (ha:Hu a) (hb:Hu b):Hu (FT a b):=by
 refine Mo fun x hx=>?_
 unfold Fi at hx
 obtain⟨i,-,rfl⟩:=List.mem_map.1 hx
 rw[Gk,HI (A4 ha _) (A4 hb _)]
 have h1:=A4 ha i
 have h2:(a.getD i 0).toNat &&& (b.getD i 0).toNat≤(a.getD i 0).toNat:=Nat.and_le_left
 have h3:=h1.1
 have h4:=h1.2
 exact⟨Int.natCast_nonneg _,by omega⟩
theorem Pb (b:List Int):∀n,CQ b n=0∨b.getD (CQ b n-1) 0≠0
 | 0=>.inl rfl
 | n+1=>by
  unfold CQ
  split
  ·exact Pb b n
  ·rename_i h
   right
   simpa using h
theorem A0h {n:Nat} (h0:n≠0) (h1:n<18446744073709551616):∃r,r<64∧n.testBit r=true:=by
 refine Classical.byContradiction fun hc=>h0 ?_
 refine Nat.eq_of_testBit_eq fun r=>?_
 rw[Nat.zero_testBit]
 by_cases hr:r<64
 ·cases hb:n.testBit r with
  | false=>rfl
  | true=>exact absurd ⟨r,hr,hb⟩ hc
 ·have e:(18446744073709551616:Nat)=2 ^ 64:=by decide
  rw[e]at h1
  exact Nat.testBit_lt_two_pow (Nat.lt_of_lt_of_le h1 (Nat.pow_le_pow_right (by decide) (by omega)))
theorem tU {b:List Int} (hb:Hu b) {k:Nat} (h:b.getD k 0≠0):∃i,BK b i=true:=by
 have hu:=A4 hb k
 have h1:=hu.1
 have h2:=hu.2
 obtain⟨r,hr,ht⟩:=A0h (n:=(b.getD k 0).toNat) (by omega) (by omega)
 refine⟨64*k+r,?_⟩
 unfold BK
 rw[show (64*k+r) / 64=k by omega,show (64*k+r) % 64=r by omega]
 exact ht
theorem cS {b:List Int} (hb:Hu b) (h:BC b≠[]):∃i,BK b i=true:=by
 rcases Pb b b.length with h1|h1
 ·exact absurd (by unfold BC;rw[h1];rfl) h
 ·exact tU hb h1
theorem VW {a b:List Int} (ha:Hu a) (hb:Hu b) (h:∀i,BK a i=true→BK b i=true) (k:Nat):CJ .andNot .u64 (a.getD k 0) (b.getD k 0)=0:=by
 rw[PX]
 have:(BitVec.ofInt 64 (a.getD k 0) &&& ~~~BitVec.ofInt 64 (b.getD k 0))=0#64:=by
  apply BitVec.eq_of_getLsbD_eq
  intro r hr
  rw[BitVec.getLsbD_and,BitVec.getLsbD_not,←BitVec.testBit_toNat,←BitVec.testBit_toNat,E1 (A4 ha k),E1 (A4 hb k)]
  have hk:=h (64*k+r)
  unfold BK at hk
  rw[show (64*k+r) / 64=k by omega,show (64*k+r) % 64=r by omega]at hk
  cases hx:(a.getD k 0).toNat.testBit r with
  | false=>simp
  | true=>rw[hk hx];simp
 rw[this]
 rfl
theorem cU {a b:List Int} (ha:Hu a) (hb:Hu b):El a b=true↔∀i,BK a i=true→BK b i=true:=by
 constructor
 ·exact fun h i hi=>Ki ha hb h hi
 ·intro h
  unfold El PQ BC
  have h1:CQ (Fi .andNot a b a.length) (Fi .andNot a b a.length).length=0:=by
   rw[D5]
   exact PY fun k hk=>by rw[LW _ _ _ hk];exact VW ha hb h k
  rw[h1]
  rfl
end
/- Functions of grammarlabref05: Check. -/
section
attribute [local go_sem] IM Kg XQ Pa oO
def Mw (d:List AJ) (l:List AQ) (t:Nat) (s:ByteArray):Bool:=(Sy d l (t:Int) s).2&&((Sy d l (t:Int) s).1.length:Int)==0
def k9 (d:List AJ) (l:List AQ) (f:List ByteArray) (t:Nat):Bool:=f.any (Mw d l t)
def Kl (d:List AJ) (l:List AQ) (f:List ByteArray) (n:Nat):Bool:=(List.range n).any (k9 d l f)
theorem ZT (d:List AJ) (l:List AQ) (f:List ByteArray) (n:Nat):Kl d l f (n+1)=(Kl d l f n||k9 d l f n):=by
 unfold Kl
 rw[List.range_succ,List.any_append]
 simp
def BH (d:List AJ):Int :=
 if (Bt d).2≠0 then (Bt d).2 else if 64<(DP d).length then 7 else if Kk d≠0 then Kk d else
 if ((DP d).all fun s=>(Fm d s).2)=false then 10 else if Kl d (Bt d).1 (DP d) (Bt d).1.length=true then 11 else 0
def La:Ac:={ ins:=[EK],pre:=fun _=>True,out:=fun(d,_)=>[.p Yp (BH d)] }
theorem VX:Ai Tryz.prog 84 La:=by
 refine AP Tryz.func84 (by kernel_rfl) rfl Tryz.ntmps84 (by decide) (by kernel_rfl) (AH [(59,IM),(85,Kg),(121,XQ),(95,Pa),(86,oO)]) (AE OJ (AE Sn (AE tQ (AE ZP (AE tS AI))))) ?_
 rintro w0 O0 ⟨d,u⟩ hc - -
 simp only[La,AM]
 repeat'(first|exact trivial|refine eS rfl ?_|refine AB ?_|refine rX [0,2,3,4,5,6,7,9,10,11,12,13,20,26,30,35,48,52,58,77] hc ?_ ?_|refine rC ?_ ?_<;>intro AA<;>try(cases AA;done))
 ·have h1:BH d=(Bt d).2:=by unfold BH;rw[if_pos AA]
  exact AG hc [.tmp 2] rfl (.inl rfl) (by simp) (by rw[h1];first|exact eR|refine Ap ?_)
 ·have hz:(Bt d).2=0:=by simpa using AA
  obtain⟨h3,-,-⟩:=Be hz
  obtain⟨-,hd,-⟩:=A3 h3
  exact⟨hd,fun x hx=>(JS h3 x hx).2⟩
 ·have hz:(Bt d).2=0:=by simpa using ‹((Bt d).2 != 0)=false›
  have h1:BH d=7:=by
   unfold BH
   rw[if_neg (by rw[hz];simp),if_pos (by omega)]
  exact AG hc [.tmp 2] rfl (.inl rfl) (by simp) (by rw[h1];first|exact eR|refine Ap ?_)
 ·have hz:(Bt d).2=0:=by simpa using ‹((Bt d).2 != 0)=false›
  obtain⟨h3,-,-⟩:=Be hz
  exact(A3 h3).2.1
 ·have hz:(Bt d).2=0:=by simpa using ‹((Bt d).2 != 0)=false›
  have h1:BH d=Kk d:=by
   unfold BH
   rw[if_neg (by rw[hz];simp),if_neg (by omega),if_pos AA]
  exact AG hc [.tmp 2] rfl (.inl rfl) (by simp) (by rw[h1];first|exact eR|refine Ap ?_)
 ·have hz:(Bt d).2=0:=by simpa using ‹((Bt d).2 != 0)=false›
  have hdz:Kk d=0:=by simpa using AA
  obtain⟨h3,hlen,hl⟩:=Be hz
  obtain⟨hsup,hd,-⟩:=A3 h3
  have hnr:=k8 h3 hdz
  have hwid:=Mv h3
  have hpos:=A0c h3
  have hll:(Ax d).length≤256:=by rw[HL];exact hlen
  have hc5:BH d=if ((DP d).all fun s=>(Fm d s).2)=false then 10 else if Kl d (Bt d).1 (DP d) (Bt d).1.length=true then 11 else 0:=by
   unfold BH
   rw[if_neg (by rw[hz];simp),if_neg (by omega),if_neg (by rw[hdz];simp)]
  rw[hl]at hc5 ⊢
  generalize Ax d=l at *
  generalize DP d=f at *
  refine AK (ι:={i:Nat//i≤f.length∧((f.take i).all fun s=>(Fm d s).2)=true}) (fun i=>⟨[(0,.p EK d),(3,.p Im l),(5,.p Bq f),(7,.p (.int .i64) (i.1:Int))],[]⟩) (fun i=>f.length-i.1) ⟨0,Nat.zero_le _,rfl⟩ (AC [] rfl rfl ?_ ?_) (fun i=>?_)
  ·first|exact eN|refine eM ?_
  ·first|exact eN|refine eM ?_
  ·obtain⟨i,hi,hall⟩:=i
   have hstep:=fun h:i<f.length=>Io f ByteArray.empty (fun s=>(Fm d s).2) h
   simp only
   repeat'(first|exact trivial|refine eS rfl ?_|refine AB ?_|refine rX [0,2,3,4,5,6,7,9,10,11,12,13,20,26,30,35,48,52,58,77] hc ?_ ?_|refine rC ?_ ?_<;>intro AA<;>try(cases AA;done))
   ·exact⟨AA,hsup,hd⟩
   ·have hi2:i<f.length:=Int.ofNat_lt.1 (by assumption)
    have h2:(f.all fun s=>(Fm d s).2)=false:=by
     rw[Bool.eq_false_iff]
     intro h
     have:=List.all_eq_true.1 h _ (AD f ByteArray.empty hi2)
     rw[show (Fm d (f.getD i ByteArray.empty)).2=false from AA]at this
     cases this
    rw[if_pos h2]at hc5
    exact AG hc [.tmp 2] rfl (.inl rfl) (by simp) (by rw[hc5];first|exact eR|refine Ap ?_)
   ·omega
   ·have hi2:i<f.length:=Int.ofNat_lt.1 (by assumption)
    refine⟨⟨i+1,hi2,?_⟩,by simp only;omega,AC [] rfl rfl ?_ ?_⟩
    ·rw[hstep hi2,hall]
     exact AA
    ·first|exact eN|refine eM ?_
    ·first|exact eN|refine eM ?_
   ·have hi2:f.take i=f:=List.take_of_length_le (Int.ofNat_le.1 AA)
    rw[hi2]at hall
    rw[if_neg (by rw[hall];simp)]at hc5
    refine AK (ι:={t:Nat//t≤l.length∧Kl d l f t=false}) (fun t=>⟨[(0,.p EK d),(3,.p Im l),(5,.p Bq f),(10,.p (.int .i64) (t.1:Int))],[]⟩) (fun t=>l.length-t.1) ⟨0,Nat.zero_le _,rfl⟩ (AC [] rfl rfl ?_ ?_) (fun t=>?_)
    ·first|exact eN|refine eM ?_
    ·first|exact eN|refine eM ?_
    ·obtain⟨t,ht,hvb⟩:=t
     have hvs:=ZT d l f t
     simp only
     repeat'(first|exact trivial|refine eS rfl ?_|refine AB ?_|refine rX [0,2,3,4,5,6,7,9,10,11,12,13,20,26,30,35,48,52,58,77] hc ?_ ?_|refine rC ?_ ?_<;>intro AA<;>try(cases AA;done))
     ·have htl:t<l.length:=Int.ofNat_lt.1 AA
      refine AK (ι:={k:Nat//k≤f.length∧(f.take k).any (Mw d l t)=false}) (fun k=>⟨[(0,.p EK d),(3,.p Im l),(5,.p Bq f),(10,.p (.int .i64) (t:Int)),(11,.p (.int .i64) (k.1:Int))],[]⟩) (fun k=>f.length-k.1) ⟨0,Nat.zero_le _,rfl⟩ (AC [] rfl rfl ?_ ?_) (fun k=>?_)
      ·first|exact eN|refine eM ?_
      ·first|exact eN|refine eM ?_
      ·obtain⟨k,hk,hany⟩:=k
       have hst:=fun h:k<f.length=>LR f ByteArray.empty (Mw d l t) h
       simp only
       repeat'(first|exact trivial|refine eS rfl ?_|refine AB ?_|refine rX [0,2,3,4,5,6,7,9,10,11,12,13,20,26,30,35,48,52,58,77] hc ?_ ?_|refine rC ?_ ?_<;>intro AA<;>try(cases AA;done))
       ·exact⟨AA,hnr,by assumption,hll,hwid⟩
       ·have hk2:k<f.length:=Int.ofNat_lt.1 (by assumption)
        have hb:Mw d l t (f.getD k ByteArray.empty)=true:=by
         unfold Mw
         rw[Bool.and_eq_true,beq_iff_eq]
         exact AA
        have hB:Kl d l f l.length=true:=by
         unfold Kl
         rw[List.any_eq_true]
         exact⟨t,List.mem_range.2 htl,GA f ByteArray.empty _ hk2 hb⟩
        rw[if_pos hB]at hc5
        exact AG hc [.tmp 2] rfl (.inl rfl) (by simp) (by rw[hc5];first|exact eR|refine Ap ?_)
       ·omega
       ·have hk2:k<f.length:=Int.ofNat_lt.1 (by assumption)
        have hb:Mw d l t (f.getD k ByteArray.empty)=false:=by
         rw[Bool.eq_false_iff]
         unfold Mw
         intro h
         rw[Bool.and_eq_true,beq_iff_eq]at h
         exact AA h.1 h.2
        refine⟨⟨k+1,hk2,?_⟩,by simp only;omega,AC [] rfl rfl ?_ ?_⟩
        ·rw[hst hk2,hany,hb]
         rfl
        ·first|exact eN|refine eM ?_
        ·first|exact eN|refine eM ?_
       ·omega
       ·have hk2:f.take k=f:=List.take_of_length_le (Int.ofNat_le.1 AA)
        rw[hk2]at hany
        refine⟨⟨t+1,htl,?_⟩,by simp only;omega,AC [] rfl rfl ?_ ?_⟩
        ·rw[hvs,hvb]
         exact hany
        ·first|exact eN|refine eM ?_
        ·first|exact eN|refine eM ?_
     ·have ht2:t=l.length:=by exact eV
      subst ht2
      rw[if_neg (by rw[hvb];simp)]at hc5
      exact AG hc [.tmp 2] rfl (.inl rfl) (by simp) (by rw[hc5];first|exact eR|refine Ap ?_)
end
end Go.Proofs.YtmejfnhmgbhkmabGreat.Fw
