/- Contracts of the program's and the reference's functions, and the plain laws of what they compute: C1 C2 C9 C10 C11 C12 C13 C3 C4 C5 C6 C7 C8 C14 C15 C16 C17 C18 C19 C20 C21 C22 C23 N1 N2 C24 C25 N3 C26 C27 C28 C29 N4 C30 C31 C32. -/
/- Functions of grammarlabref01: digit, upper, lower, part, named, Name, Feature. -/
import Derived.Test.YtdapahgnpbehbaaGreatJZJ
set_option linter.unusedVariables false
set_option linter.unusedSimpArgs false
namespace Go.Proofs.YtdapahgnpbehbaaGreat.Fw
open Go
attribute [local irreducible] Ev
attribute [local go_sem] PO AM List.toList_toArray BX evG evK Pw DK Gn Da Cz Eh KA Hb Bm B0 HG BD CA frz Sq FL CU Aq EI BE AV.frz AV.frzs AV.drp AV.drps AV.names AV.namess aq FO HV Ge L7 F4 A2 A5 G2 DM FP DN QQX FQ FT Mn J4 Et GM EK Cs Mo Lj Zq G7 GT HW D9 Ci F7 Gg Ct L8 Bw Cu DP Lk GU Ll IE F8 Gh B9 B5 EL Cj FW CV DQ CW Cv Ds BD B8 Lq Li Id EU F6 F5 Gf I2 J7 IG Ha HY Gk KY HZ Gl Pv J9 J8 AV.trn AV.trns DE Bv Obj.trn HC RR CL CQ CK Cw Bo DR Ae lk Eq E2 FN gG Sp Nt Ss KX YH YI kL AV.cells Bn Gz KV Gj J6 Bx I0 Ty.cell1 FM Dd Cg Eg Iz Dc H9 ID L6 Cr Fx JT L5 Mm Iy H8 Ps Qm KW I1 CM G0 RV.flat Ty.flat Ty.size St.add upd del BJ Value.oneCell' Ic Ty.dflt FK QQQ Ej IU List.take_succ_cons List.take_zero List.length_cons PQ PR IT Fi GZ EX FB WM C0 HL HN HO HP Jb Jc GQ Fc Ki Option.map_some Option.map_none Option.bind_some Option.getD_some Option.getD_none Option.isNone_none Option.isNone_some Bool.and_true Bool.true_and Bool.and_false Bool.false_and Bool.not_true Bool.not_false if_true if_false List.length_cons List.length_nil and_true true_and and_self List.all_cons List.all_nil List.append_nil List.nil_append List.cons_append List.getElem?_cons_zero List.getElem?_cons_succ List.getElem?_nil List.map_cons List.map_nil List.set_cons_zero List.set_cons_succ List.isEmpty_nil List.isEmpty_cons decide_true decide_false beq_self_eq_true bne_self_eq_false Nat.zero_add Nat.add_zero Nat.sub_zero Int.toNat_natCast Int.toNat_zero Int.toNat_one List.take_length List.length_append List.length_singleton true_or or_true or_self false_or or_false Ty.agg.injEq Ty.slice.injEq Ty.prod.injEq Ty.int.injEq Option.some.injEq beq_iff_eq JB evMG evMQ Z7 Fh IP Bd HA Fe KE G9 Fg Ff GR Hi Ii JA Ij MJ GY IQ IR E8 AX Ac Op.operands Call.operands List.filterMap_cons List.filterMap_nil List.append_eq Bool.cond_false_right Bool.cond_true_left cond_true cond_false implies_true decide_eq_true_eq beq_true beq_false Bool.or_true Bool.or_false Bool.true_or Bool.false_or Option.isSome_some EJ HH DS Fz Pu J5 Dr D5 D0 GV FU Gi HX Nu Sr IA pX Gm EF EV FX Al PT List.drop_zero Cc F0 Pz CO Hj BP AV.fgt AV.fgts Obj.fgt Ab Ak AX Cb JC BI Fj List.any_cons List.any_nil Vo RE P0 RF JD Ln qs List.flatMap_cons List.flatMap_nil List.cons_append tn QA HD List.take_succ_cons List.drop_succ_cons QB Fk BQ RS GE B2 CR Ag Du Gp BV DW Cl Fa Fb Eu GC
attribute [local go_sem] xH ty2 ty3 ty4 ty5 ty9 rK rO rQ rR rS rT rU rV rW rZ r8 r9 sA sB sC sD sE sF sG sH sI sJ sK sL sM sN sO sP sQ sR sS sT sU sV sW sX sY sZ s0 s5 s6 s7 s8 s9 tA tB tC tD tE tF tG tH tI tJ tK tL tM tN tP tQ tR tS tT tU tV tW tX tY tZ t5 t6 t7 t8 t9 aN aO aP aQ aR aU aV aW aX aY aZ a9 bA bB bC bD bE bF bG bH bI bJ bK bL bM bN bO bP bQ bR bS bT bU bV bW bX bZ b4 b5 b6 b7 b8 b9 cA cB cC cE cF cG cH cI cJ cK cL cM cN cO cQ cR cS cU cV cW cX cZ c6 c7 c8 c9 dA dB dC dD dE dF dG dH dI dJ dK dL dM dN dP dQ dR dS dT dU dV dW dX dY dZ d3 d4 d5 d6 d7 d8 d9 eA eB eC eD eE eF eG eH eI eJ eK eL eO eP eQ eU eW eX
set_option maxRecDepth 100000
set_option maxHeartbeats 4000000
section
def Im (a b c:Int):Bool:=decide (a≤c)&&decide (c≤b)
def Rd:Ah:={ ins:=[.int .u8],pre:=fun _=>True,out:=fun(c,_)=>[.p .bool (Im 48 57 c)] }
attribute [local go_sem] Rd
def VG:Ah:={ ins:=[.int .u8],pre:=fun _=>True,out:=fun(c,_)=>[.p .bool (Im 65 90 c)] }
attribute [local go_sem] VG
def VH:Ah:={ ins:=[.int .u8],pre:=fun _=>True,out:=fun(c,_)=>[.p .bool (Im 97 122 c)] }
attribute [local go_sem] VH
theorem Wm:Ao Tryz.prog 176 Rd:=by
 refine AW Tryz.func176 (by kernel_rfl) rfl Tryz.ntmps176 (by decide) (by kernel_rfl) (AF []) AI ?_
 rintro w0 O0 ⟨c,u⟩ hc - -
 simp only[Rd,AM]
 repeat'(first|exact trivial|refine eS rfl ?_|refine AB ?_|refine rX [0,2] hc ?_ ?_|refine rC ?_ ?_<;>intro AA<;>try(cases AA;done))
 exact AG hc [.tmp 2] rfl (.inl rfl) (by simp) (by unfold Im;first|exact eR|refine Av ?_)
theorem mV:Ao Tryz.prog 183 VG:=by
 refine AW Tryz.func183 (by kernel_rfl) rfl Tryz.ntmps183 (by decide) (by kernel_rfl) (AF []) AI ?_
 rintro w0 O0 ⟨c,u⟩ hc - -
 simp only[VG,AM]
 repeat'(first|exact trivial|refine eS rfl ?_|refine AB ?_|refine rX [0,2] hc ?_ ?_|refine rC ?_ ?_<;>intro AA<;>try(cases AA;done))
 exact AG hc [.tmp 2] rfl (.inl rfl) (by simp) (by unfold Im;first|exact eR|refine Av ?_)
theorem mW:Ao Tryz.prog 184 VH:=by
 refine AW Tryz.func184 (by kernel_rfl) rfl Tryz.ntmps184 (by decide) (by kernel_rfl) (AF []) AI ?_
 rintro w0 O0 ⟨c,u⟩ hc - -
 simp only[VH,AM]
 repeat'(first|exact trivial|refine eS rfl ?_|refine AB ?_|refine rX [0,2] hc ?_ ?_|refine rC ?_ ?_<;>intro AA<;>try(cases AA;done))
 exact AG hc [.tmp 2] rfl (.inl rfl) (by simp) (by unfold Im;first|exact eR|refine Av ?_)
def Re (c:Int) (big:Bool):Bool:=Im 48 57 c||c==45||big&&Im 65 90 c||!big&&Im 97 122 c
def e7:Ah:={ ins:=[.int .u8,.bool],pre:=fun _=>True,out:=fun(c,b,_)=>[.p .bool (Re c b)] }
attribute [local go_sem] e7
theorem uB:Ao Tryz.prog 177 e7:=by
 refine AW Tryz.func177 (by kernel_rfl) rfl Tryz.ntmps177 (by decide) (by kernel_rfl) (AF [(176,Rd),(183,VG),(184,VH)]) (AD Wm (AD mV (AD mW AI))) ?_
 rintro w0 O0 ⟨c,b,u⟩ hc - -
 simp only[e7,AM]
 repeat'(first|exact trivial|refine eS rfl ?_|refine AB ?_|refine rX [0,1,4] hc ?_ ?_|refine rC ?_ ?_<;>intro AA<;>try(cases AA;done))
 exact AG hc [.tmp 4] rfl (.inl rfl) (by simp) (by unfold Re;first|exact eR|refine Av ?_)
abbrev xI (s:ByteArray) (i:Nat):Int:=((s.data.getD i 0).toNat:Int)
def OO (s:ByteArray):Bool:=decide ((s.size:Int)<1)||decide (32<(s.size:Int))||Im 48 57 (xI s 0)||xI s 0==45
def Ed (s:ByteArray) (big:Bool):Bool:=!OO s&&(List.range s.size).all fun i=>Re (xI s i) big
def Rf:Ah:={ ins:=[T9,.bool],pre:=fun _=>True,out:=fun(s,b,_)=>[.p .bool (Ed s b)] }
attribute [local go_sem] Rf
theorem Wn:Ao Tryz.prog 165 Rf:=by
 refine AW Tryz.func165 (by kernel_rfl) rfl Tryz.ntmps165 (by decide) (by kernel_rfl) (AF [(176,Rd),(177,e7)]) (AD Wm (AD uB AI)) ?_
 rintro w0 O0 ⟨s,b,u⟩ hc - -
 simp only[Rf,AM]
 repeat'(first|exact trivial|refine eS rfl ?_|refine AB ?_|refine rX [0,1,4,5,23,27,35] hc ?_ ?_|refine rC ?_ ?_<;>intro AA<;>try(cases AA;done))
 ·constructor
  ·intro h
   simp only[Bool.not_eq_true',Bool.or_eq_false_iff,decide_eq_false_iff_not]at h
   have:1≤(s.size:Int):=by omega
   exact this
  ·intro h
   simp only[Bool.not_eq_true',Bool.or_eq_false_iff,decide_eq_false_iff_not]at h
   have:1≤(s.size:Int):=by omega
   exact this
 ·have h1:OO s=true:=by
   unfold OO xI
   simp only[Bool.or_eq_true,decide_eq_true_eq,beq_iff_eq]
   exact AA
  have h2:Ed s b=false:=by unfold Ed;rw[h1];rfl
  exact AG hc [.tmp 4] rfl (.inl rfl) (by simp) (by rw[h2];first|exact eR|refine Av ?_)
 ·have h1:OO s=false:=by
   unfold OO xI
   simp only[Bool.or_eq_false_iff,decide_eq_false_iff_not,beq_eq_false_iff_ne]
   exact⟨⟨⟨by omega,by omega⟩,AA.1.2⟩,AA.2⟩
  have hsz:s.size≤32:=by omega
  refine AJ (ι:={k:Nat//k≤s.size∧((List.range k).all fun i=>Re (xI s i) b)=true}) (fun k=>⟨[(0,.p T9 s),(1,.p .bool b),(5,.p (.int .i64) (k.1:Int))],[]⟩) (fun k=>s.size-k.1) ⟨0,by simp⟩ (AC [] rfl rfl ?_ ?_) (fun k=>?_)
  ·first|exact eN|refine eM ?_
  ·first|exact eN|refine eM ?_
  ·obtain⟨k,hk,hall⟩:=k
   repeat'(first|exact trivial|refine eS rfl ?_|refine AB ?_|refine rX [0,1,4,5,23,27,35] hc ?_ ?_|refine rC ?_ ?_<;>intro AA<;>try(cases AA;done))
   ·exact AA
   ·have hk2:k<s.size:=by omega
    have h2:Ed s b=false:=by
     unfold Ed
     rw[Bool.and_eq_false_iff]
     refine .inr (Bool.eq_false_iff.2 fun h=>?_)
     have:=List.all_eq_true.1 h k (List.mem_range.2 hk2)
     rw[show Re (xI s k) b=false from AA]at this
     cases this
    exact AG hc [.tmp 4] rfl (.inl rfl) (by simp) (by rw[h2];first|exact eR|refine Av ?_)
   ·omega
   ·have hk2:k<s.size:=by omega
    refine⟨⟨k+1,by omega,?_⟩,by simp only;omega,AC [] rfl rfl ?_ ?_⟩
    ·rw[List.range_succ,List.all_append,hall]
     rw[Bool.true_and,List.all_cons,List.all_nil,Bool.and_true]
     exact AA
    ·first|exact eN|refine eM ?_
    ·first|exact eN|refine eM ?_
   ·have hk2:k=s.size:=by omega
    subst hk2
    have h2:Ed s b=true:=by unfold Ed;rw[h1,hall];rfl
    exact AG hc [.tmp 4] rfl (.inl rfl) (by simp) (by rw[h2];first|exact eR|refine Av ?_)
def e9:Ah:={ ins:=[T9],pre:=fun _=>True,out:=fun(s,_)=>[.p .bool (Ed s false)] }
def NF:Ah:={ ins:=[T9],pre:=fun _=>True,out:=fun(s,_)=>[.p .bool (Ed s true)] }
theorem uC:Ao Tryz.prog 151 e9:=by
 refine AW Tryz.func151 (by kernel_rfl) rfl Tryz.ntmps151 (by decide) (by kernel_rfl) (AF [(165,Rf)]) (AD Wn AI) ?_
 rintro w0 O0 ⟨s,u⟩ hc - -
 simp only[e9,AM]
 repeat'(first|exact trivial|refine eS rfl ?_|refine AB ?_|refine rX [0,2] hc ?_ ?_|refine rC ?_ ?_<;>intro AA<;>try(cases AA;done))
 exact AG hc [.tmp 2] rfl (.inl rfl) (by simp) (by first|exact eR|refine Av ?_)
theorem Yw:Ao Tryz.prog 150 NF:=by
 refine AW Tryz.func150 (by kernel_rfl) rfl Tryz.ntmps150 (by decide) (by kernel_rfl) (AF [(165,Rf)]) (AD Wn AI) ?_
 rintro w0 O0 ⟨s,u⟩ hc - -
 simp only[NF,AM]
 repeat'(first|exact trivial|refine eS rfl ?_|refine AB ?_|refine rX [0,2] hc ?_ ?_|refine rC ?_ ?_<;>intro AA<;>try(cases AA;done))
 exact AG hc [.tmp 2] rfl (.inl rfl) (by simp) (by first|exact eR|refine Av ?_)
end
/- Functions of grammarlabref03: Among, find, Put. -/
section
theorem LQ {α:Type} (l:List α) (d:α) (p:α→Bool) {k:Nat} (h:k<l.length):(l.take (k+1)).any p=((l.take k).any p||p (l.getD k d)):=by
 rw[Au l d h,List.any_append];simp
theorem Ga {α:Type} (l:List α) (d:α) (p:α→Bool) {k:Nat} (h:k<l.length) (hp:p (l.getD k d)=true):l.any p=true :=
 List.any_eq_true.2 ⟨_,AE l d h,hp⟩
def Aa (l:List ByteArray) (s:ByteArray):Bool:=l.any fun x=>Am x s
def ED:Ah:={ ins:=[Br,T9],pre:=fun _=>True,out:=fun(l,n,_)=>[.p .bool (Aa l n)],lend:=true }
attribute [local go_sem] ED
theorem Gb:Ao Tryz.prog 131 ED:=by
 refine AW Tryz.func131 (by kernel_rfl) rfl Tryz.ntmps131 (by decide) (by kernel_rfl) (AF []) AI ?_
 rintro w0 O0 ⟨l,n,u⟩ hc ⟨⟨hl,-⟩,-⟩ -
 simp only[AO]at hl
 simp only[ED,AM]
 repeat'(first|exact trivial|refine eS rfl ?_|refine AB ?_|refine rX [0,1,4,5,9,17] hc ?_ ?_|refine rC ?_ ?_<;>intro AA<;>try(cases AA;done))
 refine AJ (ι:={k:Nat//k≤l.length∧(l.take k).any (fun x=>Am x n)=false}) (fun k=>⟨[(0,.p Br l),(1,.p T9 n),(5,.p (.int .i64) (k.1:Int))],[]⟩) (fun k=>l.length-k.1) ⟨0,by simp⟩ (AC [] rfl rfl ?_ ?_) (fun k=>?_)
 ·first|exact eN|refine eM ?_
 ·first|exact eN|refine eM ?_
 ·obtain⟨k,hk,hany⟩:=k
  repeat'(first|exact trivial|refine eS rfl ?_|refine AB ?_|refine rX [0,1,4,5,9,17] hc ?_ ?_|refine rC ?_ ?_<;>intro AA<;>try(cases AA;done))
  ·exact eV
  ·have hkl:k<l.length:=by exact eV
   have h1:Aa l n=true:=Ga l ByteArray.empty _ hkl AA
   exact AG hc [.tmp 4] rfl (.inl rfl) (by simp) (by rw[h1];first|exact eR|refine Av ?_)
  ·exact eV
  ·have hkl:k<l.length:=by exact eV
   refine⟨⟨k+1,by exact eV,?_⟩,by simp only;exact eV,AC [] rfl rfl ?_ ?_⟩
   ·rw[LQ l ByteArray.empty _ hkl,hany];exact AA
   ·first|exact eN|refine eM ?_
   ·first|exact eN|refine eM ?_
  ·have hk:l.take k=l:=List.take_of_length_le (by exact eV)
   rw[hk]at hany
   have h1:Aa l n=false:=hany
   exact AG hc [.tmp 4] rfl (.inl rfl) (by simp) (by rw[h1];first|exact eR|refine Av ?_)
def kM (l:List ByteArray) (s:ByteArray):Nat:=(l.takeWhile fun x=>Gy x s).length
theorem mX {α:Type} (p:α→Bool) (d:α):∀(l:List α) (k:Nat),k≤(l.takeWhile p).length→((k<l.length∧p (l.getD k d)=true)↔k+1≤(l.takeWhile p).length)
 | [],k,h=>by simp
 | x :: l,k,h=>by
  by_cases hx:p x=true
  ·rw[List.takeWhile_cons,if_pos hx]at h ⊢
   cases k with
   | zero=>simp[hx]
   | succ k =>
    have:=mX p d l k (by simpa using h)
    simpa using this
  ·rw[List.takeWhile_cons,if_neg hx]at h ⊢
   have hk:k=0:=by simpa using h
   subst hk
   simp[hx]
theorem wA {α:Type} (p:α→Bool) (l:List α):(l.takeWhile p).length≤l.length:=(List.takeWhile_sublist p).length_le
def EE (l:List ByteArray) (s:ByteArray):List ByteArray :=
 if (decide (kM l s<l.length)&&Am (l.getD (kM l s) ByteArray.empty) s)=true then l else l.take (kM l s)++[s]++l.drop (kM l s)
def MO:Ah:={ ins:=[Br,T9],pre:=fun(l,_,_)=>List.length l≤100000,out:=fun(l,n,_)=>[.p Br (EE l n)] }
attribute [local go_sem] MO
theorem OP:Ao Tryz.prog 122 MO:=by
 refine AW Tryz.func122 (by kernel_rfl) rfl Tryz.ntmps122 (by decide) (by kernel_rfl) (AF []) AI ?_
 rintro w0 O0 ⟨l,n,u⟩ hc-hl
 have hl:l.length≤100000:=hl
 simp only[MO,AM]
 repeat'(first|exact trivial|refine eS rfl ?_|refine AB ?_|refine rX [0,1,4,5,6,18,32] hc ?_ ?_|refine rC ?_ ?_<;>intro AA<;>try(cases AA;done))
 refine AJ (ι:={k:Nat//k≤kM l n}) (fun k=>⟨[(0,.p Br l),(1,.p T9 n),(5,.raw (.slice none 0 0)),(6,.p (.int .i64) (k.1:Int))],[]⟩) (fun k=>l.length-k.1) ⟨0,by simp⟩ (AC [] rfl rfl ?_ ?_) (fun k=>?_)
 ·first|exact eN|refine eM ?_
 ·first|exact eN|refine eM ?_
 ·obtain⟨k,hk⟩:=k
  have hle:=wA (fun x=>Gy x n) l
  have htw:=mX (fun x=>Gy x n) ByteArray.empty l k hk
  simp only
  repeat'(first|exact trivial|refine eS rfl ?_|refine AB ?_|refine rX [0,1,4,5,6,18,32] hc ?_ ?_|refine rC ?_ ?_<;>intro AA<;>try(cases AA;done))
  ·exact fun h=>h
  ·have h1:k<l.length∧Gy (l.getD k ByteArray.empty) n=true:=⟨by exact eV,AA.2⟩
   exact eV
  ·have h1:k<l.length∧Gy (l.getD k ByteArray.empty) n=true:=⟨by exact eV,AA.2⟩
   refine⟨⟨k+1,htw.1 h1⟩,by simp only;omega,AC [] rfl rfl ?_ ?_⟩
   ·first|exact eN|refine eM ?_
   ·first|exact eN|refine eM ?_
  ·exact fun h=>h
  ·rename_i hend
   have hk2:k=kM l n:=by
    refine Nat.le_antisymm hk (Nat.le_of_not_lt fun h=>?_)
    have:=htw.2 h
    rw[hend (Int.ofNat_lt.2 this.1)]at this
    cases this.2
   have h2:EE l n=l:=by
    unfold EE
    rw[←hk2,if_pos]
    rw[Bool.and_eq_true,decide_eq_true_eq]
    exact⟨Int.ofNat_lt.1 AA.1,AA.2⟩
   exact AG hc [.tmp 4] rfl (.inl rfl) (by simp) (by rw[h2];first|exact eR|refine Av ?_)
  ·have h3:=List.length_take_le k l
   have h4:k≤l.length:=Nat.le_trans hk hle
   simp only[AO]
   exact⟨Int.ofNat_le.2 h4,by dsimp only[Ty.den]at *;omega⟩
  ·have h3:=List.length_take_le k l
   have h4:k≤l.length:=Nat.le_trans hk hle
   simp only[AO]
   dsimp only[Ty.den]at *
   omega
  ·have h3:=List.length_take_le k l
   have h4:k≤l.length:=Nat.le_trans hk hle
   have h5:(l.drop k).length≤l.length:=by rw[List.length_drop];omega
   simp only[AO]
   exact⟨Int.ofNat_le.2 h4,by dsimp only[Ty.den]at *;omega⟩
  ·rename_i hend
   have hk2:k=kM l n:=by
    refine Nat.le_antisymm hk (Nat.le_of_not_lt fun h=>?_)
    have:=htw.2 h
    rw[hend (Int.ofNat_lt.2 this.1)]at this
    cases this.2
   have h2:EE l n=l.take k++[n]++l.drop k:=by
    unfold EE
    rw[←hk2,if_neg]
    rw[Bool.and_eq_true,decide_eq_true_eq]
    intro h
    rw[AA (Int.ofNat_lt.2 h.1)]at h
    cases h.2
   have h4:k≤l.length:=Nat.le_trans hk hle
   have hlen:(l.take k).length+1+(l.drop k).length=(l.take k++[n]++l.drop k).length:=by simp only[List.length_append,List.length_singleton]
   rw[hlen,←h2]
   refine HQ [38] ?_
   exact AG hc [.tmp 4] rfl (.inl rfl) (by simp) (by first|exact eR|refine Av ?_)
end
/- Functions of grammarlabref02: word, Normal. -/
section
def F1 (b:List Int) (i:Int):Int:=if i<b.length then b.getD i.toNat 0 else 0
def Rg:Ah:={ ins:=[EC,T3],pre:=fun(_,i,_)=>(0:Int)≤i,out:=fun(b,i,_)=>[.p NE (F1 b i)],lend:=true }
attribute [local go_sem] Rg
theorem fA:Ao Tryz.prog 142 Rg:=by
 refine AW Tryz.func142 (by kernel_rfl) rfl Tryz.ntmps142 (by decide) (by kernel_rfl) (AF []) AI ?_
 rintro w0 O0 ⟨b,i,u⟩ hc-hi
 simp only[Rg,AM]
 repeat'(first|exact trivial|refine eS rfl ?_|refine AB ?_|refine rX [0,1,4,8] hc ?_ ?_|refine rC ?_ ?_<;>intro AA<;>try(cases AA;done))
 ·exact⟨hi,AA⟩
 ·have h1:F1 b i=b.getD i.toNat 0:=by unfold F1;rw[if_pos AA]
  exact AG hc [.tmp 4] rfl (.inl rfl) (by simp) (by rw[h1];first|exact eR|refine Av ?_)
 ·have h1:F1 b i=0:=by unfold F1;rw[if_neg (Int.not_lt.2 AA)]
  exact AG hc [.tmp 4] rfl (.inl rfl) (by simp) (by rw[h1];first|exact eR|refine Av ?_)
def CS (b:List Int):Nat→Nat
 | 0=>0
 | n+1=>if b.getD n 0=0 then CS b n else n+1
def A7 (b:List Int):List Int:=b.take (CS b b.length)
theorem Rh (b:List Int):∀n,CS b n≤n
 | 0=>Nat.le_refl _
 | n+1=>by
  unfold CS
  split
  ·exact Nat.le_succ_of_le (Rh b n)
  ·exact Nat.le_refl _
def Fl:Ah:={ ins:=[EC],pre:=fun(b,_)=>List.length b≤100000,out:=fun(b,_)=>[.p EC (A7 b)] }
attribute [local go_sem] Fl
theorem LR:Ao Tryz.prog 124 Fl:=by
 refine AW Tryz.func124 (by kernel_rfl) rfl Tryz.ntmps124 (by decide) (by kernel_rfl) (AF []) AI ?_
 rintro w0 O0 ⟨b,u⟩ hc-hb
 have hb:b.length≤100000:=hb
 simp only[Fl,AM]
 repeat'(first|exact trivial|refine eS rfl ?_|refine AB ?_|refine rX [0,2,3,15] hc ?_ ?_|refine rC ?_ ?_<;>intro AA<;>try(cases AA;done))
 refine AJ (ι:={n:Nat//n≤b.length∧CS b n=CS b b.length}) (fun n=>⟨[(0,.p EC b),(3,.p (.int .i64) (n.1:Int))],[]⟩) (fun n=>n.1) ⟨b.length,Nat.le_refl _,rfl⟩ (AC [] rfl rfl ?_ ?_) (fun n=>?_)
 ·first|exact eN|refine eM ?_
 ·first|exact eN|refine eM ?_
 ·obtain⟨n,hn,hg⟩:=n
  simp only
  repeat'(first|exact trivial|refine eS rfl ?_|refine AB ?_|refine rX [0,2,3,15] hc ?_ ?_|refine rC ?_ ?_<;>intro AA<;>try(cases AA;done))
  ·constructor
   ·exact eV
   ·intro h
    refine⟨?_,?_⟩<;>exact eV
  ·exact eV
  ·obtain⟨h1,h2⟩:=AA
   obtain⟨m,rfl⟩:∃m,n=m+1:=⟨n-1,by omega⟩
   have e:(((m+1:Nat):Int)-1)=(m:Int):=by omega
   rw[e]at h2
   have h2:b.getD m 0=0:=h2
   have hg2:CS b m=CS b b.length:=by
    rw[←hg]
    show _=if b.getD m 0=0 then CS b m else m+1
    rw[if_pos h2]
   refine⟨⟨m,by omega,hg2⟩,by simp,AC [] rfl rfl ?_ ?_⟩
   ·first|exact eN|refine eM ?_
   ·simp only[e]
    first|exact eN|refine eM ?_
  ·have h3:=List.length_take_le n b
   simp only[AO]
   exact⟨Int.ofNat_le.2 hn,by dsimp only[Ty.den]at *;omega⟩
  ·have hend:CS b n=n:=by
    cases n with
    | zero=>rfl
    | succ m =>
     have e:(((m+1:Nat):Int)-1)=(m:Int):=by omega
     rw[e]at AA
     have h2:=AA (by omega)
     have h2:¬b.getD m 0=0:=h2
     show (if b.getD m 0=0 then CS b m else m+1)=m+1
     rw[if_neg h2]
   have h1:A7 b=b.take n:=by unfold A7;rw[←hg,hend]
   rw[←h1]
   refine HQ [18] ?_
   exact AG hc [.tmp 2] rfl (.inl rfl) (by simp) (by first|exact eR|refine Av ?_)
end
/- Functions of grammarlabref02: Has. -/
section
attribute [local go_sem] Rg Fl
def mY (w:Int) (r:Int):Bool:=Bt .and .u64 (So .u64 w r) 1==1
def Ri (b:List Int) (i:Int):Bool:=if (decide (i<0)||decide ((b.length:Int)≤i.tdiv 64))=true then false else mY (b.getD (i.tdiv 64).toNat 0) (i.tmod 64)
def Yx:Ah:={ ins:=[EC,T3],pre:=fun _=>True,out:=fun(b,i,_)=>[.p .bool (Ri b i)],lend:=true }
theorem xJ {w:Int} (h0:0≤w) (r:Int):0≤So .u64 w r∧So .u64 w r≤w:=by
 unfold So
 have hp:(0:Int)<2 ^ (min r.toNat IntKind.u64.bits):=Int.pow_pos (by decide)
 rw[Int.fdiv_eq_ediv_of_nonneg _ (Int.le_of_lt hp)]
 exact⟨Int.ediv_nonneg h0 (Int.le_of_lt hp),Int.ediv_le_self _ h0⟩
theorem mZ:Ao Tryz.prog 135 Yx:=by
 refine AW Tryz.func135 (by kernel_rfl) rfl Tryz.ntmps135 (by decide) (by kernel_rfl) (AF []) AI ?_
 rintro w0 O0 ⟨b,i,u⟩ hc ⟨⟨hbl,hbe⟩,hik,-⟩ -
 have hik:J3 .i64 i:=hik
 rw[GQ]at hik
 have htd:0≤i→Int.tdiv i 64=i / 64∧Int.tmod i 64=i % 64:=fun h=>⟨Int.tdiv_eq_ediv_of_nonneg h,Int.tmod_eq_emod_of_nonneg h⟩
 simp only[Yx,AM]
 repeat'(first|exact trivial|refine eS rfl ?_|refine AB ?_|refine rX [0,1,4,13] hc ?_ ?_|refine rC ?_ ?_<;>intro AA<;>try(cases AA;done))
 ·intro h
  have h0:0≤i:=by simpa using h
  obtain⟨e1,e2⟩:=htd h0
  rw[e1]
  refine⟨by decide,?_,?_⟩<;>exact eV
 ·have h1:Ri b i=false:=by
   unfold Ri
   rw[if_pos]
   rw[Bool.or_eq_true,decide_eq_true_eq,decide_eq_true_eq]
   exact AA
  exact AG hc [.tmp 4] rfl (.inl rfl) (by simp) (by rw[h1];first|exact eR|refine Av ?_)
 ·obtain⟨h0,hlt⟩:=AA
  obtain⟨e1,e2⟩:=htd h0
  rw[e1]at hlt
  have hw:J3 .u64 (b.getD (i / 64).toNat 0):=hbe _ (AE b 0 (by exact eV))
  rw[Fc]at hw
  have hs:=xJ hw.1 (i % 64)
  rw[e1,e2]
  refine⟨⟨by decide,by exact eV,by exact eV⟩,⟨by exact eV,by exact eV⟩,⟨by decide,by exact eV,by exact eV⟩,⟨by exact eV,by exact eV⟩,by exact eV,hs.1,Int.le_trans hs.2 hw.2⟩
 ·have h1:Ri b i=mY (b.getD (i.tdiv 64).toNat 0) (i.tmod 64):=by
   unfold Ri
   rw[if_neg]
   rw[Bool.or_eq_true,decide_eq_true_eq,decide_eq_true_eq]
   rintro (h|h)<;>omega
  exact AG hc [.tmp 4] rfl (.inl rfl) (by simp) (by rw[h1];unfold mY;first|exact eR|refine Av ?_)
end
/- Functions of grammarlabref02: And, Minus. -/
section
attribute [local go_sem] Rg Fl
def GF (op:BinOp) (a b:List Int) (n:Nat):List Int:=(List.range n).map fun i=>Bt op .u64 (a.getD i 0) (F1 b (i:Int))
theorem EP (op:BinOp) (a b:List Int) (n:Nat):(GF op a b n).length=n:=by simp[GF]
theorem Tk (op:BinOp) (a b:List Int) (n:Nat):GF op a b (n+1)=GF op a b n++[Bt op .u64 (a.getD n 0) (F1 b (n:Int))]:=by simp[GF,List.range_succ]
def EY (a b:List Int):List Int:=A7 (GF .and a b a.length)
def Yy:Ah:={ ins:=[EC,EC],pre:=fun(a,_,_)=>List.length a≤100000,out:=fun(a,b,_)=>[.p EC (EY a b)] }
theorem m5:Ao Tryz.prog 112 Yy:=by
 refine AW Tryz.func112 (by kernel_rfl) rfl Tryz.ntmps112 (by decide) (by kernel_rfl) (AF [(142,Rg),(124,Fl)]) (AD fA (AD LR AI)) ?_
 rintro w0 O0 ⟨a,b,u⟩ hc-ha
 have ha:a.length≤100000:=ha
 simp only[Yy,AM]
 repeat'(first|exact trivial|refine eS rfl ?_|refine AB ?_|refine rX [0,1,4,5,6,10] hc ?_ ?_|refine rC ?_ ?_<;>intro AA<;>try(cases AA;done))
 refine AJ (ι:={n:Nat//n≤a.length}) (fun n=>⟨[(0,.p EC a),(1,.p EC b),(5,.sr 23 NE 0 n.1),(6,.p (.int .i64) (n.1:Int))],[(23,.arr 155 NE (GF .and a b n.1))]⟩) (fun n=>a.length-n.1) ⟨0,Nat.zero_le _⟩ (AC [(23,.nil)] rfl rfl ?_ ?_) (fun n=>?_)
 ·first|exact eN|refine eM ?_
  rfl
 ·first|exact eN|refine eM ?_
 ·obtain⟨n,hn⟩:=n
  have hz:=EP .and a b n
  have hs:=Tk .and a b n
  simp only
  repeat'(first|exact trivial|refine eS rfl ?_|refine AB ?_|refine rX [0,1,4,5,6,10] hc ?_ ?_|refine rC ?_ ?_<;>intro AA<;>try(cases AA;done))
  ·refine⟨AA,?_⟩
   simp only[AO]
   dsimp only[Ty.den]at *
   omega
  ·exact eV
  ·have hn2:n<a.length:=by exact eV
   refine⟨⟨n+1,by omega⟩,by simp only;omega,AC [(23,.nm 23)] rfl rfl ?_ ?_⟩
   ·simp only[hs]
    first|exact eN|refine eM ?_
    rw[List.take_of_length_le (by rw[hz];exact Nat.le_refl _)]
   ·first|exact eN|refine eM ?_
  ·have hn2:n=a.length:=by exact eV
   subst hn2
   refine HQ [23] ?_
   have ht:(GF .and a b a.length).take a.length=GF .and a b a.length:=List.take_of_length_le (by rw[EP];exact Nat.le_refl _)
   repeat'(first|exact trivial|refine eS rfl ?_|refine AB ?_|refine rX [0,1,4,5,6,10] hc ?_ ?_|refine rC ?_ ?_<;>intro AA<;>try(cases AA;done))
   ·rw[ht,EP];exact ha
   ·rw[ht]
    exact AG hc [.tmp 4] rfl (.inl rfl) (by simp) (by unfold EY;first|exact eR|refine Av ?_)
def OQ (a b:List Int):List Int:=A7 (GF .andNot a b a.length)
def VI:Ah:={ ins:=[EC,EC],pre:=fun(a,_,_)=>List.length a≤100000,out:=fun(a,b,_)=>[.p EC (OQ a b)] }
attribute [local go_sem] VI
theorem m6:Ao Tryz.prog 109 VI:=by
 refine AW Tryz.func109 (by kernel_rfl) rfl Tryz.ntmps109 (by decide) (by kernel_rfl) (AF [(142,Rg),(124,Fl)]) (AD fA (AD LR AI)) ?_
 rintro w0 O0 ⟨a,b,u⟩ hc-ha
 have ha:a.length≤100000:=ha
 simp only[VI,AM]
 repeat'(first|exact trivial|refine eS rfl ?_|refine AB ?_|refine rX [0,1,4,5,6,10] hc ?_ ?_|refine rC ?_ ?_<;>intro AA<;>try(cases AA;done))
 refine AJ (ι:={n:Nat//n≤a.length}) (fun n=>⟨[(0,.p EC a),(1,.p EC b),(5,.sr 23 NE 0 n.1),(6,.p (.int .i64) (n.1:Int))],[(23,.arr 155 NE (GF .andNot a b n.1))]⟩) (fun n=>a.length-n.1) ⟨0,Nat.zero_le _⟩ (AC [(23,.nil)] rfl rfl ?_ ?_) (fun n=>?_)
 ·first|exact eN|refine eM ?_
  rfl
 ·first|exact eN|refine eM ?_
 ·obtain⟨n,hn⟩:=n
  have hz:=EP .andNot a b n
  have hs:=Tk .andNot a b n
  simp only
  repeat'(first|exact trivial|refine eS rfl ?_|refine AB ?_|refine rX [0,1,4,5,6,10] hc ?_ ?_|refine rC ?_ ?_<;>intro AA<;>try(cases AA;done))
  ·refine⟨AA,?_⟩
   simp only[AO]
   dsimp only[Ty.den]at *
   omega
  ·exact eV
  ·have hn2:n<a.length:=by exact eV
   refine⟨⟨n+1,by omega⟩,by simp only;omega,AC [(23,.nm 23)] rfl rfl ?_ ?_⟩
   ·simp only[hs]
    first|exact eN|refine eM ?_
    rw[List.take_of_length_le (by rw[hz];exact Nat.le_refl _)]
   ·first|exact eN|refine eM ?_
  ·have hn2:n=a.length:=by exact eV
   subst hn2
   refine HQ [23] ?_
   have ht:(GF .andNot a b a.length).take a.length=GF .andNot a b a.length:=List.take_of_length_le (by rw[EP];exact Nat.le_refl _)
   repeat'(first|exact trivial|refine eS rfl ?_|refine AB ?_|refine rX [0,1,4,5,6,10] hc ?_ ?_|refine rC ?_ ?_<;>intro AA<;>try(cases AA;done))
   ·rw[ht,EP];exact ha
   ·rw[ht]
    exact AG hc [.tmp 4] rfl (.inl rfl) (by simp) (by unfold OQ;first|exact eR|refine Av ?_)
def EZ (a b:List Int):Bool:=((OQ a b).length:Int)==0
def IX:Ah:={ ins:=[EC,EC],pre:=fun(a,_,_)=>List.length a≤100000,out:=fun(a,b,_)=>[.p .bool (EZ a b)],lend:=true }
attribute [local go_sem] IX
theorem OT:Ao Tryz.prog 71 IX:=by
 refine AW Tryz.func71 (by kernel_rfl) rfl Tryz.ntmps71 (by decide) (by kernel_rfl) (AF [(109,VI)]) (AD m6 AI) ?_
 rintro w0 O0 ⟨a,b,u⟩ hc-ha
 have ha:a.length≤100000:=ha
 simp only[IX,AM]
 repeat'(first|exact trivial|refine eS rfl ?_|refine AB ?_|refine rX [0,1,4] hc ?_ ?_|refine rC ?_ ?_<;>intro AA<;>try(cases AA;done))
 ·exact ha
 ·exact AG hc [.tmp 4] rfl (.inl rfl) (by simp) (by unfold EZ;first|exact eR|refine Av ?_)
def Fm (a b:List Int):Bool:=EZ a b&&EZ b a
def QX:Ah:={ ins:=[EC,EC],pre:=fun(a,b,_)=>List.length a≤100000∧List.length b≤100000,out:=fun(a,b,_)=>[.p .bool (Fm a b)],lend:=true }
theorem iP:Ao Tryz.prog 134 QX:=by
 refine AW Tryz.func134 (by kernel_rfl) rfl Tryz.ntmps134 (by decide) (by kernel_rfl) (AF [(71,IX)]) (AD OT AI) ?_
 rintro w0 O0 ⟨a,b,u⟩ hc-⟨ha,hb⟩
 simp only[QX,AM]
 repeat'(first|exact trivial|refine eS rfl ?_|refine AB ?_|refine rX [0,1,4] hc ?_ ?_|refine rC ?_ ?_<;>intro AA<;>try(cases AA;done))
 ·exact⟨ha,fun _=>hb⟩
 ·exact AG hc [.tmp 4] rfl (.inl rfl) (by simp) (by unfold Fm;first|exact eR|refine Av ?_)
end
/- Functions of grammarlabref02: Same, List. -/
section
attribute [local go_sem] Yx
def HE (a b:List Int):Bool:=decide (a=b)
def NG:Ah:={ ins:=[EC,EC],pre:=fun _=>True,out:=fun(a,b,_)=>[.p .bool (HE a b)],lend:=true }
theorem fB:Ao Tryz.prog 125 NG:=by
 refine AW Tryz.func125 (by kernel_rfl) rfl Tryz.ntmps125 (by decide) (by kernel_rfl) (AF []) AI ?_
 rintro w0 O0 ⟨a,b,u⟩ hc ⟨⟨ha,-⟩,-⟩ -
 simp only[AO]at ha
 simp only[NG,AM]
 repeat'(first|exact trivial|refine eS rfl ?_|refine AB ?_|refine rX [0,1,4,5,10,14,25] hc ?_ ?_|refine rC ?_ ?_<;>intro AA<;>try(cases AA;done))
 ·have h1:HE a b=false:=by
   unfold HE
   rw[decide_eq_false_iff_not]
   rintro rfl
   exact AA rfl
  exact AG hc [.tmp 4] rfl (.inl rfl) (by simp) (by rw[h1];first|exact eR|refine Av ?_)
 ·have hab:a.length=b.length:=by
   have:(a.length:Int)=(b.length:Int):=by simpa using AA
   exact Int.ofNat_inj.1 this
  refine AJ (ι:={k:Nat//k≤a.length∧a.take k=b.take k}) (fun k=>⟨[(0,.p EC a),(1,.p EC b),(5,.p (.int .i64) (k.1:Int))],[]⟩) (fun k=>a.length-k.1) ⟨0,Nat.zero_le _,rfl⟩ (AC [] rfl rfl ?_ ?_) (fun k=>?_)
  ·first|exact eN|refine eM ?_
  ·first|exact eN|refine eM ?_
  ·obtain⟨k,hk,hf⟩:=k
   simp only
   repeat'(first|exact trivial|refine eS rfl ?_|refine AB ?_|refine rX [0,1,4,5,10,14,25] hc ?_ ?_|refine rC ?_ ?_<;>intro AA<;>try(cases AA;done))
   ·exact⟨AA,by rw[←hab];exact AA⟩
   ·have hk2:k<a.length:=by exact eV
    have h1:HE a b=false:=by
     unfold HE
     rw[decide_eq_false_iff_not]
     rintro rfl
     exact AA rfl
    exact AG hc [.tmp 4] rfl (.inl rfl) (by simp) (by rw[h1];first|exact eR|refine Av ?_)
   ·exact eV
   ·have hk2:k<a.length:=by exact eV
    have he:a.getD k 0=b.getD k 0:=by simpa using AA
    refine⟨⟨k+1,by omega,?_⟩,by simp only;omega,AC [] rfl rfl ?_ ?_⟩
    ·rw[Au a 0 hk2,Au b 0 (by omega),hf]
     rw[show a.getD k 0=b.getD k 0 from he]
    ·first|exact eN|refine eM ?_
    ·first|exact eN|refine eM ?_
   ·have hk2:k=a.length:=by exact eV
    subst hk2
    rw[List.take_length,hab,List.take_length]at hf
    have h1:HE a b=true:=by unfold HE;rw[hf];simp
    exact AG hc [.tmp 4] rfl (.inl rfl) (by simp) (by rw[h1];first|exact eR|refine Av ?_)
end
/- Functions of grammarlabref02: List, Count. -/
section
attribute [local go_sem] Yx
def Lv (b:List Int) (n:Nat):List Int:=((List.range n).filter fun(i:Nat)=>Ri b (i:Int)).map fun(i:Nat)=>(i:Int)
def Hn (b:List Int):List Int:=Lv b (64*b.length)
theorem Yz (b:List Int) (n:Nat):Lv b (n+1)=Lv b n++if Ri b (n:Int)=true then [(n:Int)] else []:=by
 unfold Lv
 rw[List.range_succ,List.filter_append,List.map_append]
 congr 1
 rw[List.filter_cons,List.filter_nil]
 split<;>rfl
theorem iQ (b:List Int) (n:Nat):(Lv b n).length≤n:=by
 unfold Lv
 rw[List.length_map]
 exact Nat.le_trans (List.length_filter_le _ _) (by simp)
def fC:Ah:={ ins:=[EC],pre:=fun(b,_)=>List.length b≤100000,out:=fun(b,_)=>[.p Jj (Hn b)] }
attribute [local go_sem] fC
theorem uD:Ao Tryz.prog 156 fC:=by
 refine AW Tryz.func156 (by kernel_rfl) rfl Tryz.ntmps156 (by decide) (by kernel_rfl) (AF [(135,Yx)]) (AD mZ AI) ?_
 rintro w0 O0 ⟨b,u⟩ hc-hb
 have hb:b.length≤100000:=hb
 simp only[fC,AM]
 repeat'(first|exact trivial|refine eS rfl ?_|refine AB ?_|refine rX [0,2,3,4,9,14] hc ?_ ?_|refine rC ?_ ?_<;>intro AA<;>try(cases AA;done))
 refine AJ (ι:={n:Nat//n≤64*b.length}) (fun n=>⟨[(0,.p EC b),(3,.sr 18 T3 0 (Lv b n.1).length),(4,.p (.int .i64) (n.1:Int))],[(18,.arr 3 T3 (Lv b n.1))]⟩) (fun n=>64*b.length-n.1) ⟨0,Nat.zero_le _⟩ (AC [(18,.nil)] rfl rfl ?_ ?_) (fun n=>?_)
 ·first|exact eN|refine eM ?_
  rfl
 ·first|exact eN|refine eM ?_
  rfl
 ·obtain⟨n,hn⟩:=n
  have hz:=iQ b n
  have hs:=Yz b n
  simp only
  repeat'(first|exact trivial|refine eS rfl ?_|refine AB ?_|refine rX [0,2,3,4,9,14] hc ?_ ?_|refine rC ?_ ?_<;>intro AA<;>try(cases AA;done))
  ·exact eV
  ·rw[AA,if_pos rfl]at hs
   simp only[AO]
   dsimp only[Ty.den]at *
   omega
  ·exact eV
  ·have hn2:n<64*b.length:=by exact eV
   rw[AA,if_pos rfl]at hs
   refine⟨⟨n+1,by omega⟩,by simp only;omega,AC [(18,.nm 18)] rfl rfl ?_ ?_⟩
   ·simp only[hs]
    first|exact eN|refine eM ?_
   ·simp only[hs]
    first|exact eN|refine eM ?_
  ·exact eV
  ·have hn2:n<64*b.length:=by exact eV
   rw[AA,if_neg (by simp),List.append_nil]at hs
   refine⟨⟨n+1,by omega⟩,by simp only;omega,AC [(18,.nm 18)] rfl rfl ?_ ?_⟩
   ·simp only[hs]
    first|exact eN|refine eM ?_
   ·simp only[hs]
    first|exact eN|refine eM ?_
  ·have hn2:n=64*b.length:=by exact eV
   subst hn2
   refine HQ [18] ?_
   exact AG hc [.tmp 2] rfl (.inl rfl) (by simp) (by unfold Hn;first|exact eR|refine Av ?_)
def VJ:Ah:={ ins:=[EC],pre:=fun(b,_)=>List.length b≤100000,out:=fun(b,_)=>[.p T3 ((Hn b).length:Int)],lend:=true }
theorem m7:Ao Tryz.prog 137 VJ:=by
 refine AW Tryz.func137 (by kernel_rfl) rfl Tryz.ntmps137 (by decide) (by kernel_rfl) (AF [(156,fC)]) (AD uD AI) ?_
 rintro w0 O0 ⟨b,u⟩ hc-hb
 simp only[VJ,AM]
 repeat'(first|exact trivial|refine eS rfl ?_|refine AB ?_|refine rX [0,2] hc ?_ ?_|refine rC ?_ ?_<;>intro AA<;>try(cases AA;done))
 ·exact hb
 ·exact AG hc [.tmp 2] rfl (.inl rfl) (by simp) (by first|exact eR|refine Av ?_)
end
/- Functions of grammarlabref03: find, sizes, ready. -/
section
attribute [local go_sem] ED e9
abbrev AH:=ByteArray×List ByteArray×List (ByteArray×ByteArray)
abbrev d0:AH:=(ByteArray.empty,[],[])
def Ce (s:ByteArray):Nat→List AH→Int
 | _,[]=>-1
 | k,x :: l=>if Am x.1 s=true then (k:Int) else Ce s (k+1) l
def A9 (l:List AH) (s:ByteArray):Int:=Ce s 0 l
theorem PY (s:ByteArray) (l:List AH) {k:Nat} (h:k<l.length):Ce s k (l.drop k)=if Am (l.getD k d0).1 s=true then (k:Int) else Ce s (k+1) (l.drop (k+1)):=by
 rw[List.drop_eq_getElem_cons h]
 have e:l.getD k d0=l[k]:=by simp[List.getD_eq_getElem?_getD,h]
 rw[e]
 rfl
def Gt:Ah:={ ins:=[Es,T9],pre:=fun _=>True,out:=fun(l,s,_)=>[.p T3 (A9 l s)] }
attribute [local go_sem] Gt
theorem Kp:Ao Tryz.prog 152 Gt:=by
 refine AW Tryz.func152 (by kernel_rfl) rfl Tryz.ntmps152 (by decide) (by kernel_rfl) (AF []) AI ?_
 rintro w0 O0 ⟨l,s,u⟩ hc ⟨⟨hl,-⟩,-⟩ -
 simp only[AO]at hl
 simp only[Gt,AM]
 repeat'(first|exact trivial|refine eS rfl ?_|refine AB ?_|refine rX [0,1,4,5,9,18] hc ?_ ?_|refine rC ?_ ?_<;>intro AA<;>try(cases AA;done))
 refine AJ (ι:={k:Nat//k≤l.length∧Ce s k (l.drop k)=A9 l s}) (fun k=>⟨[(0,.p Es l),(1,.p T9 s),(5,.p (.int .i64) (k.1:Int))],[]⟩) (fun k=>l.length-k.1) ⟨0,Nat.zero_le _,rfl⟩ (AC [] rfl rfl ?_ ?_) (fun k=>?_)
 ·first|exact eN|refine eM ?_
 ·first|exact eN|refine eM ?_
 ·obtain⟨k,hk,hf⟩:=k
  simp only
  repeat'(first|exact trivial|refine eS rfl ?_|refine AB ?_|refine rX [0,1,4,5,9,18] hc ?_ ?_|refine rC ?_ ?_<;>intro AA<;>try(cases AA;done))
  ·exact AA
  ·have hk2:k<l.length:=by exact eV
   rw[PY s l hk2,if_pos AA]at hf
   exact AG hc [.tmp 4] rfl (.inl rfl) (by simp) (by rw[←hf];first|exact eR|refine Av ?_)
  ·exact eV
  ·have hk2:k<l.length:=by exact eV
   rw[PY s l hk2,if_neg (by rw[AA];simp)]at hf
   refine⟨⟨k+1,by omega,hf⟩,by simp only;omega,AC [] rfl rfl ?_ ?_⟩
   ·first|exact eN|refine eM ?_
   ·first|exact eN|refine eM ?_
  ·have hk2:l.drop k=[]:=List.drop_eq_nil_of_le (by exact eV)
   rw[hk2]at hf
   exact AG hc [.tmp 4] rfl (.inl rfl) (by simp) (by rw[←hf];first|exact eR|refine Av ?_;rfl)
def Kq:List AH→Int
 | []=>0
 | x :: l=>if 256<x.2.1.length∨256<x.2.2.length then 7 else Kq l
def Ee (l:List AH):Int:=if 256<l.length then 7 else Kq l
theorem PZ (l:List AH) {k:Nat} (h:k<l.length):Kq (l.drop k)=if 256<(l.getD k d0).2.1.length∨256<(l.getD k d0).2.2.length then 7 else Kq (l.drop (k+1)):=by
 rw[List.drop_eq_getElem_cons h]
 have e:l.getD k d0=l[k]:=by simp[List.getD_eq_getElem?_getD,h]
 rw[e]
 rfl
def Rj:Ah:={ ins:=[Es],pre:=fun _=>True,out:=fun(l,_)=>[.p Rb (Ee l)] }
attribute [local go_sem] Rj
theorem m8:Ao Tryz.prog 126 Rj:=by
 refine AW Tryz.func126 (by kernel_rfl) rfl Tryz.ntmps126 (by decide) (by kernel_rfl) (AF []) AI ?_
 rintro w0 O0 ⟨l,u⟩ hc ⟨⟨hl,-⟩,-⟩ -
 simp only[AO]at hl
 simp only[Rj,AM]
 repeat'(first|exact trivial|refine eS rfl ?_|refine AB ?_|refine rX [0,2,3,6,10,28] hc ?_ ?_|refine rC ?_ ?_<;>intro AA<;>try(cases AA;done))
 ·have h1:Ee l=7:=by unfold Ee;rw[if_pos (by exact eV)]
  exact AG hc [.tmp 2] rfl (.inl rfl) (by simp) (by rw[h1];first|exact eR|refine Av ?_)
 ·have h1:Ee l=Kq l:=by unfold Ee;rw[if_neg (by exact eV)]
  refine AJ (ι:={k:Nat//k≤l.length∧Kq (l.drop k)=Ee l}) (fun k=>⟨[(0,.p Es l),(3,.p (.int .i64) (k.1:Int))],[]⟩) (fun k=>l.length-k.1) ⟨0,Nat.zero_le _,h1.symm⟩ (AC [] rfl rfl ?_ ?_) (fun k=>?_)
  ·first|exact eN|refine eM ?_
  ·first|exact eN|refine eM ?_
  ·obtain⟨k,hk,hf⟩:=k
   simp only
   repeat'(first|exact trivial|refine eS rfl ?_|refine AB ?_|refine rX [0,2,3,6,10,28] hc ?_ ?_|refine rC ?_ ?_<;>intro AA<;>try(cases AA;done))
   ·exact⟨AA,fun _=>AA⟩
   ·have hk2:k<l.length:=by exact eV
    rw[PZ l hk2,if_pos (by
     rcases AA with h|h
     ·exact .inl (Int.ofNat_lt.1 h)
     ·exact .inr (Int.ofNat_lt.1 h))]at hf
    exact AG hc [.tmp 2] rfl (.inl rfl) (by simp) (by rw[←hf];first|exact eR|refine Av ?_)
   ·exact eV
   ·have hk2:k<l.length:=by exact eV
    rw[PZ l hk2,if_neg (by
     rintro (h|h)
     ·have:=Int.ofNat_le.1 AA.1;exact absurd h (Nat.not_lt.2 this)
     ·have:=Int.ofNat_le.1 AA.2;exact absurd h (Nat.not_lt.2 this))]at hf
    refine⟨⟨k+1,by omega,hf⟩,by simp only;omega,AC [] rfl rfl ?_ ?_⟩
    ·first|exact eN|refine eM ?_
    ·first|exact eN|refine eM ?_
   ·have hk2:l.drop k=[]:=List.drop_eq_nil_of_le (by exact eV)
    rw[hk2]at hf
    exact AG hc [.tmp 2] rfl (.inl rfl) (by simp) (by rw[←hf];first|exact eR|refine Av ?_;rfl)
theorem GG {α:Type} (l:List α) (d:α) (p:α→Bool) {k:Nat} (h:k<l.length):(l.take (k+1)).all p=((l.take k).all p&&p (l.getD k d)):=by
 rw[Au l d h,List.all_append];simp
def Ho (x:AH) (done:List ByteArray):Bool:=x.2.1.all fun s=>Aa done s
def Rk:Ah:={ ins:=[iK,Br],pre:=fun _=>True,out:=fun(x,l,_)=>[.p .bool (Ho x l)],lend:=true }
attribute [local go_sem] Rk
theorem m9:Ao Tryz.prog 153 Rk:=by
 refine AW Tryz.func153 (by kernel_rfl) rfl Tryz.ntmps153 (by decide) (by kernel_rfl) (AF [(131,ED)]) (AD Gb AI) ?_
 rintro w0 O0 ⟨⟨nm,sup,fe⟩,l,u⟩ hc ⟨⟨-,⟨hsz,-⟩,-⟩,-⟩ -
 simp only[AO]at hsz
 simp only[Rk,AM]
 repeat'(first|exact trivial|refine eS rfl ?_|refine AB ?_|refine rX [0,1,2,4,5,10,20] hc ?_ ?_|refine rC ?_ ?_<;>intro AA<;>try(cases AA;done))
 refine AJ (ι:={k:Nat//k≤sup.length∧(sup.take k).all (fun s=>Aa l s)=true}) (fun k=>⟨[(1,.p Br l),(2,.bp 2 [] 0),(5,.p (.int .i64) (k.1:Int))],[(2,.box 111 true [.p T9 nm,.p Br sup,.p Wh fe])]⟩) (fun k=>sup.length-k.1) ⟨0,by simp⟩ (AC [(2,.nm 2)] rfl rfl ?_ ?_) (fun k=>?_)
 ·first|exact eN|refine eM ?_
 ·first|exact eN|refine eM ?_
 ·obtain⟨k,hk,hf⟩:=k
  simp only
  repeat'(first|exact trivial|refine eS rfl ?_|refine AB ?_|refine rX [0,1,2,4,5,10,20] hc ?_ ?_|refine rC ?_ ?_<;>intro AA<;>try(cases AA;done))
  ·exact AA
  ·have hk2:k<sup.length:=by exact eV
   have h1:Ho (nm,sup,fe) l=false:=by
    unfold Ho
    refine Bool.eq_false_iff.2 fun h=>?_
    have:=List.all_eq_true.1 h _ (AE sup ByteArray.empty hk2)
    rw[AA]at this
    cases this
   exact AG hc [.tmp 4] rfl (.inl rfl) (by simp) (by rw[h1];first|exact eR|refine Av ?_)
  ·have:=hsz
   exact eV
  ·have hk2:k<sup.length:=by exact eV
   refine⟨⟨k+1,by omega,?_⟩,by simp only;omega,AC [(2,.nm 2)] rfl rfl ?_ ?_⟩
   ·rw[GG sup ByteArray.empty _ hk2,hf]
    exact AA
   ·first|exact eN|refine eM ?_
   ·first|exact eN|refine eM ?_
  ·have hk2:sup.take k=sup:=List.take_of_length_le (by exact eV)
   rw[hk2]at hf
   have h1:Ho (nm,sup,fe) l=true:=hf
   exact AG hc [.tmp 4] rfl (.inl rfl) (by simp) (by rw[h1];first|exact eR|refine Av ?_)
def MP (d:List AH):Nat→List AH→Int
 | _,[]=>0
 | k,x :: l=>if Ed x.1 false=false then 1 else if A9 d x.1<(k:Int) then 4 else MP d (k+1) l
def Dg (d:List AH):Int:=MP d 0 d
theorem Kr (d l:List AH) {k:Nat} (h:k<l.length):MP d k (l.drop k)=if Ed (l.getD k d0).1 false=false then 1 else if A9 d (l.getD k d0).1<(k:Int) then 4 else MP d (k+1) (l.drop (k+1)):=by
 rw[List.drop_eq_getElem_cons h]
 have e:l.getD k d0=l[k]:=by simp[List.getD_eq_getElem?_getD,h]
 rw[e]
 rfl
def Rl:Ah:={ ins:=[Es],pre:=fun _=>True,out:=fun(l,_)=>[.p Rb (Dg l)] }
attribute [local go_sem] Rl
theorem nA:Ao Tryz.prog 127 Rl:=by
 refine AW Tryz.func127 (by kernel_rfl) rfl Tryz.ntmps127 (by decide) (by kernel_rfl) (AF [(151,e9),(152,Gt)]) (AD uC (AD Kp AI)) ?_
 rintro w0 O0 ⟨l,u⟩ hc ⟨⟨hl,-⟩,-⟩ -
 simp only[AO]at hl
 simp only[Rl,AM]
 repeat'(first|exact trivial|refine eS rfl ?_|refine AB ?_|refine rX [0,2,3,7,16,25] hc ?_ ?_|refine rC ?_ ?_<;>intro AA<;>try(cases AA;done))
 refine AJ (ι:={k:Nat//k≤l.length∧MP l k (l.drop k)=Dg l}) (fun k=>⟨[(0,.p Es l),(3,.p (.int .i64) (k.1:Int))],[]⟩) (fun k=>l.length-k.1) ⟨0,Nat.zero_le _,rfl⟩ (AC [] rfl rfl ?_ ?_) (fun k=>?_)
 ·first|exact eN|refine eM ?_
 ·first|exact eN|refine eM ?_
 ·obtain⟨k,hk,hf⟩:=k
  simp only
  repeat'(first|exact trivial|refine eS rfl ?_|refine AB ?_|refine rX [0,2,3,7,16,25] hc ?_ ?_|refine rC ?_ ?_<;>intro AA<;>try(cases AA;done))
  ·exact AA
  ·have hk2:k<l.length:=by exact eV
   rw[Kr l l hk2,if_pos AA]at hf
   exact AG hc [.tmp 2] rfl (.inl rfl) (by simp) (by rw[←hf];first|exact eR|refine Av ?_)
  ·assumption
  ·rename_i hnm
   have hk2:k<l.length:=by exact eV
   rw[Kr l l hk2,if_neg (by rw[hnm];simp),if_pos AA]at hf
   exact AG hc [.tmp 2] rfl (.inl rfl) (by simp) (by rw[←hf];first|exact eR|refine Av ?_)
  ·exact eV
  ·rename_i hnm
   have hk2:k<l.length:=by exact eV
   rw[Kr l l hk2,if_neg (by rw[hnm];simp),if_neg (Int.not_lt.2 AA)]at hf
   refine⟨⟨k+1,by omega,hf⟩,by simp only;omega,AC [] rfl rfl ?_ ?_⟩
   ·first|exact eN|refine eM ?_
   ·first|exact eN|refine eM ?_
  ·have hk2:l.drop k=[]:=List.drop_eq_nil_of_le (by exact eV)
   rw[hk2]at hf
   exact AG hc [.tmp 2] rfl (.inl rfl) (by simp) (by rw[←hf];first|exact eR|refine Av ?_;rfl)
def QD (d:List AH) (l:List ByteArray):Nat→List ByteArray→Int
 | _,[]=>0
 | k,x :: r=>if A9 d x<0 then 5 else if Aa (l.take k) x=true then 4 else QD d l (k+1) r
def Jk (d:List AH):List AH→Int
 | []=>0
 | x :: l=>if QD d x.2.1 0 x.2.1≠0 then QD d x.2.1 0 x.2.1 else Jk d l
def Jl (d:List AH):Int:=Jk d d
theorem OU (d:List AH) (l:List ByteArray) {k:Nat} (h:k<l.length):QD d l k (l.drop k)=if A9 d (l.getD k ByteArray.empty)<0 then 5 else if Aa (l.take k) (l.getD k ByteArray.empty)=true then 4 else QD d l (k+1) (l.drop (k+1)):=by
 rw[List.drop_eq_getElem_cons h]
 have e:l.getD k ByteArray.empty=l[k]:=by simp[List.getD_eq_getElem?_getD,h]
 rw[e]
 rfl
theorem VK (d l:List AH) {k:Nat} (h:k<l.length):Jk d (l.drop k)=if QD d (l.getD k d0).2.1 0 (l.getD k d0).2.1≠0 then QD d (l.getD k d0).2.1 0 (l.getD k d0).2.1 else Jk d (l.drop (k+1)):=by
 rw[List.drop_eq_getElem_cons h]
 have e:l.getD k d0=l[k]:=by simp[List.getD_eq_getElem?_getD,h]
 rw[e]
 rfl
def NH:Ah:={ ins:=[Es],pre:=fun _=>True,out:=fun(l,_)=>[.p Rb (Jl l)] }
attribute [local go_sem] NH
theorem iR:Ao Tryz.prog 128 NH:=by
 refine AW Tryz.func128 (by kernel_rfl) rfl Tryz.ntmps128 (by decide) (by kernel_rfl) (AF [(131,ED),(152,Gt)]) (AD Gb (AD Kp AI)) ?_
 rintro w0 O0 ⟨l,u⟩ hc ⟨⟨hl,hall⟩,-⟩ -
 simp only[AO]at hl
 simp only[NH,AM]
 repeat'(first|exact trivial|refine eS rfl ?_|refine AB ?_|refine rX [0,2,3,4,5,9,20,29,37] hc ?_ ?_|refine rC ?_ ?_<;>intro AA<;>try(cases AA;done))
 refine AJ (ι:={i:Nat//i≤l.length∧Jk l (l.drop i)=Jl l}) (fun i=>⟨[(0,.p Es l),(3,.p (.int .i64) (i.1:Int))],[]⟩) (fun i=>l.length-i.1) ⟨0,Nat.zero_le _,rfl⟩ (AC [] rfl rfl ?_ ?_) (fun i=>?_)
 ·first|exact eN|refine eM ?_
 ·first|exact eN|refine eM ?_
 ·obtain⟨i,hi,hf⟩:=i
  simp only
  repeat'(first|exact trivial|refine eS rfl ?_|refine AB ?_|refine rX [0,2,3,4,5,9,20,29,37] hc ?_ ?_|refine rC ?_ ?_<;>intro AA<;>try(cases AA;done))
  ·exact AA
  ·have hi2:i<l.length:=by exact eV
   have hm:=hall _ (AE l d0 hi2)
   have hml:(l.getD i d0).2.1.length≤AO:=hm.2.1.1
   simp only[AO]at hml
   rw[VK l l hi2]at hf
   generalize (l.getD i d0).2.1=sup at *
   refine AJ (ι:={k:Nat//k≤sup.length∧QD l sup k (sup.drop k)=QD l sup 0 sup}) (fun k=>⟨[(0,.p Es l),(3,.p (.int .i64) (i:Int)),(4,.p Br sup),(5,.p (.int .i64) (k.1:Int))],[]⟩) (fun k=>sup.length-k.1) ⟨0,Nat.zero_le _,rfl⟩ (AC [] rfl rfl ?_ ?_) (fun k=>?_)
   ·first|exact eN|refine eM ?_
   ·first|exact eN|refine eM ?_
   ·obtain⟨k,hk,hg⟩:=k
    simp only
    repeat'(first|exact trivial|refine eS rfl ?_|refine AB ?_|refine rX [0,2,3,4,5,9,20,29,37] hc ?_ ?_|refine rC ?_ ?_<;>intro AA<;>try(cases AA;done))
    ·exact AA
    ·have hk2:k<sup.length:=by exact eV
     rw[OU l sup hk2,if_pos AA]at hg
     rw[←hg,if_pos (by decide)]at hf
     exact AG hc [.tmp 2] rfl (.inl rfl) (by simp) (by rw[←hf];first|exact eR|refine Av ?_)
    ·exact eV
    ·rename_i hge
     have hk2:k<sup.length:=by exact eV
     rw[OU l sup hk2,if_neg (Int.not_lt.2 hge),if_pos AA]at hg
     rw[←hg,if_pos (by decide)]at hf
     exact AG hc [.tmp 2] rfl (.inl rfl) (by simp) (by rw[←hf];first|exact eR|refine Av ?_)
    ·exact eV
    ·rename_i hge
     have hk2:k<sup.length:=by exact eV
     rw[OU l sup hk2,if_neg (Int.not_lt.2 hge),if_neg (by rw[AA];simp)]at hg
     refine⟨⟨k+1,by omega,hg⟩,by simp only;omega,AC [] rfl rfl ?_ ?_⟩
     ·first|exact eN|refine eM ?_
     ·first|exact eN|refine eM ?_
    ·exact eV
    ·have hk2:sup.drop k=[]:=List.drop_eq_nil_of_le (by exact eV)
     rw[hk2]at hg
     rw[←hg,if_neg (by simp[QD])]at hf
     refine⟨⟨i+1,by omega,hf⟩,by simp only;omega,AC [] rfl rfl ?_ ?_⟩
     ·first|exact eN|refine eM ?_
     ·first|exact eN|refine eM ?_
  ·have hk2:l.drop i=[]:=List.drop_eq_nil_of_le (by exact eV)
   rw[hk2]at hf
   exact AG hc [.tmp 2] rfl (.inl rfl) (by simp) (by rw[←hf];first|exact eR|refine Av ?_;rfl)
end
/- Functions of grammarlabref03: Names, placed. -/
section
attribute [local go_sem] Gt Rk ED MO
theorem Ea {α β:Type} (g:β→α→β) (l:List α) (d:α) (t:β) {i:Nat} (hi:i<l.length):(l.take (i+1)).foldl g t=g ((l.take i).foldl g t) (l.getD i d):=by
 rw[Au l d hi,List.foldl_append];rfl
theorem Ks (l:List ByteArray) (s:ByteArray):(EE l s).length≤l.length+1:=by
 unfold EE
 split
 ·omega
 ·have:=wA (fun x=>Gy x s) l
  have h2:kM l s≤l.length:=this
  simp only[List.length_append,List.length_take,List.length_drop,List.length_singleton]
  omega
def AQ (l:List AH):List ByteArray:=l.foldl (fun o x=>EE o x.1) []
theorem Ew (l:List AH) (k:Nat):(AQ (l.take k)).length≤k:=by
 have key:∀(l:List AH) (o:List ByteArray),(l.foldl (fun o x=>EE o x.1) o).length≤o.length+l.length:=by
  intro l
  induction l with
  | nil=>intro o;simp
  | cons x l ih =>
   intro o
   have h1:=ih (EE o x.1)
   have h2:=Ks o x.1
   simp only[List.foldl_cons,List.length_cons]
   omega
 have h1:=key (l.take k) []
 have h2:=List.length_take_le k l
 unfold AQ
 simp only[List.length_nil]at h1
 omega
def Jm:Ah:={ ins:=[Es],pre:=fun(l,_)=>List.length l≤100000,out:=fun(l,_)=>[.p Br (AQ l)] }
attribute [local go_sem] Jm
theorem Tl:Ao Tryz.prog 98 Jm:=by
 refine AW Tryz.func98 (by kernel_rfl) rfl Tryz.ntmps98 (by decide) (by kernel_rfl) (AF [(122,MO)]) (AD OP AI) ?_
 rintro w0 O0 ⟨l,u⟩ hc-hl
 have hl:l.length≤100000:=hl
 simp only[Jm,AM]
 repeat'(first|exact trivial|refine eS rfl ?_|refine AB ?_|refine rX [0,2,3,4,8] hc ?_ ?_|refine rC ?_ ?_<;>intro AA<;>try(cases AA;done))
 refine AJ (ι:={k:Nat//k≤l.length}) (fun k=>⟨[(0,.p Es l),(3,.p Br (AQ (l.take k.1))),(4,.p (.int .i64) (k.1:Int))],[]⟩) (fun k=>l.length-k.1) ⟨0,Nat.zero_le _⟩ (AC [] rfl rfl ?_ ?_) (fun k=>?_)
 ·first|exact eN|refine eM ?_
 ·first|exact eN|refine eM ?_
  rfl
 ·obtain⟨k,hk⟩:=k
  have hn:=Ew l k
  have hs:=fun h:k<l.length=>Ea (fun(o:List ByteArray) (x:AH)=>EE o x.1) l d0 [] h
  simp only
  repeat'(first|exact trivial|refine eS rfl ?_|refine AB ?_|refine rX [0,2,3,4,8] hc ?_ ?_|refine rC ?_ ?_<;>intro AA<;>try(cases AA;done))
  ·exact⟨AA,by omega⟩
  ·exact eV
  ·have hk2:k<l.length:=by exact eV
   have e:=hs hk2
   refine⟨⟨k+1,by omega⟩,by simp only;omega,AC [] rfl rfl ?_ ?_⟩
   ·first|exact eN|refine eM ?_
   ·simp only
    have e:AQ (l.take (k+1))=EE (AQ (l.take k)) (l.getD k d0).1:=e
    rw[e]
    first|exact eN|refine eM ?_
  ·have hk2:l.take k=l:=List.take_of_length_le (by exact eV)
   rw[hk2]
   exact AG hc [.tmp 2] rfl (.inl rfl) (by simp) (by first|exact eR|refine Av ?_)
def IY (out:List ByteArray) (s:Bool×ByteArray) (x:AH):Bool×ByteArray :=
 if (Aa out x.1||!Ho x out)=true then s else (true,if (!s.1||Gy x.1 s.2)=true then x.1 else s.2)
def Hq (d:List AH) (out:List ByteArray):Bool×ByteArray:=d.foldl (IY out) (false,ByteArray.empty)
def IZ (d:List AH):Nat→List ByteArray→List ByteArray
 | 0,out=>out
 | n+1,out=>if (Hq d out).1=true then IZ d n (out++[(Hq d out).2]) else out
def Bb (d:List AH):List ByteArray:=IZ d d.length []
def Hr (d:List AH) (out:List ByteArray):Nat:=d.countP fun x=>!Aa out x.1
theorem Ex (s:ByteArray):Am s s=true:=by unfold Am;simp
theorem MQ (out:List ByteArray) (s x:ByteArray):Aa (out++[s]) x=(Aa out x||Am s x):=by
 unfold Aa
 simp[List.any_append]
theorem iT (d:List AH) (out:List ByteArray) (h:(Hq d out).1=true):∃x∈d,x.1=(Hq d out).2∧Aa out x.1=false:=by
 have key:∀(l:List AH) (s:Bool×ByteArray),(∀x∈l,x∈d)→(s.1=true→∃x∈d,x.1=s.2∧Aa out x.1=false)→(l.foldl (IY out) s).1=true →
   ∃x∈d,x.1=(l.foldl (IY out) s).2∧Aa out x.1=false:=by
  intro l
  induction l with
  | nil=>intro s _ hs h;exact hs h
  | cons y l ih =>
   intro s hl hs h
   rw[List.foldl_cons]at h ⊢
   refine ih _ (fun x hx=>hl x (by simp[hx])) (fun hp=>?_) h
   unfold IY at hp ⊢
   split
   ·rename_i hc
    rw[if_pos hc]at hp
    exact hs hp
   ·rename_i hc
    simp only
    have hy:Aa out y.1=false:=by
     cases hh:Aa out y.1 with
     | false=>rfl
     | true=>rw[hh]at hc;simp at hc
    split
    ·exact⟨y,hl y (by simp),rfl,hy⟩
    ·rename_i hc2
     have:s.1=true:=by
      cases hh:s.1 with
      | true=>rfl
      | false=>rw[hh]at hc2;simp at hc2
     exact hs this
 exact key d _ (fun _ h=>h) (fun h=>by cases h) h
theorem Wo {d:List AH} {out:List ByteArray} (h:(Hq d out).1=true):Hr d (out++[(Hq d out).2])<Hr d out:=by
 obtain⟨x,hx,h1,h2⟩:=iT d out h
 generalize (Hq d out).2=s at *
 unfold Hr
 have key:∀l:List AH,(l.countP fun y=>!Aa (out++[s]) y.1)≤l.countP fun y=>!Aa out y.1:=by
  intro l
  refine List.countP_mono_left fun y _ hy=>?_
  rw[MQ]at hy
  cases hh:Aa out y.1 with
  | false=>rfl
  | true=>rw[hh]at hy;simp at hy
 obtain⟨l1,l2,rfl⟩:=List.append_of_mem hx
 rw[List.countP_append,List.countP_append,List.countP_cons,List.countP_cons]
 have k1:=key l1
 have k2:=key l2
 have e1:Aa (out++[s]) x.1=true:=by rw[MQ,h1,Ex,Bool.or_true]
 rw[e1,h2]
 simp only[Bool.not_true,Bool.not_false,if_true]
 simp only[Bool.false_eq_true,if_false]
 omega
def QY:Ah:={ ins:=[Es],pre:=fun(l,_)=>List.length l≤100000,out:=fun(l,_)=>[.p Br (Bb l)] }
theorem iU:Ao Tryz.prog 129 QY:=by
 refine AW Tryz.func129 (by kernel_rfl) rfl Tryz.ntmps129 (by decide) (by kernel_rfl) (AF [(131,ED),(153,Rk)]) (AD Gb (AD m9 AI)) ?_
 rintro w0 O0 ⟨d,u⟩ hc-hd
 have hd:d.length≤100000:=hd
 simp only[QY,AM]
 repeat'(first|exact trivial|refine eS rfl ?_|refine AB ?_|refine rX [0,2,3,4,5,6,7,11,29,40,46] hc ?_ ?_|refine rC ?_ ?_<;>intro AA<;>try(cases AA;done))
 refine AJ (ι:={x:Nat×List ByteArray×Bool//x.1+x.2.1.length≤d.length∧(x.2.2=true→Hr d x.2.1≤x.1∧IZ d x.1 x.2.1=Bb d)∧(x.2.2=false→x.2.1=Bb d)}) (fun x=>⟨[(0,.p Es d),(3,.sr 50 T9 0 x.1.2.1.length),(4,.p .bool x.1.2.2)],[(50,.arr 9 T9 x.1.2.1)]⟩) (fun x=>(if x.1.2.2=true then x.1.1+1 else 0)) ⟨(d.length,[],true),by simp,fun _=>⟨List.countP_le_length,rfl⟩,fun h=>by cases h⟩ (AC [(50,.nil)] rfl rfl ?_ ?_) (fun x=>?_)
 ·first|exact eN|refine eM ?_
 ·first|exact eN|refine eM ?_
 ·obtain⟨⟨n,out,more⟩,hlen,hm1,hm2⟩:=x
  simp only at hlen hm1 hm2
  simp only
  repeat'(first|exact trivial|refine eS rfl ?_|refine AB ?_|refine rX [0,2,3,4,5,6,7,11,29,40,46] hc ?_ ?_|refine rC ?_ ?_<;>intro AA<;>try(cases AA;done))
  ·subst AA
   obtain⟨hu,hp⟩:=hm1 rfl
   have hz:({ data:=#[] }:ByteArray).size≤AO:=by decide
   rw[if_pos hz]
   refine AJ (ι:={y:Nat×Bool×ByteArray//y.1≤d.length∧(d.take y.1).foldl (IY out) (false,ByteArray.empty)=y.2}) (fun y=>⟨[(0,.p Es d),(3,.sr 50 T9 0 out.length),(4,.p .bool y.1.2.1),(5,.p T9 y.1.2.2),(6,.p (.int .i64) (y.1.1:Int))],[(50,.arr 9 T9 out)]⟩) (fun y=>d.length-y.1.1) ⟨(0,false,ByteArray.empty),by simp,rfl⟩ (AC [(50,.nm 50)] rfl rfl ?_ ?_) (fun y=>?_)
   ·first|exact eN|refine eM ?_
   ·first|exact eN|refine eM ?_
    rfl
   ·obtain⟨⟨k,mo,nx⟩,hk,hfold⟩:=y
    simp only at hk hfold
    have hstep:∀h:k<d.length,(d.take (k+1)).foldl (IY out) (false,ByteArray.empty)=IY out (mo,nx) (d.getD k d0):=fun h=>by
     rw[Ea (IY out) d d0 _ h,hfold]
    simp only
    repeat'(first|exact trivial|refine eS rfl ?_|refine AB ?_|refine rX [0,2,3,4,5,6,7,11,29,40,46] hc ?_ ?_|refine rC ?_ ?_<;>intro AA<;>try(cases AA;done))
    ·exact⟨AA,fun _=>AA⟩
    ·exact eV
    ·have hk2:k<d.length:=by exact eV
     refine⟨⟨(k+1,mo,nx),by simp only;omega,?_⟩,by simp only;omega,AC [(50,.nm 50)] rfl rfl ?_ ?_⟩
     ·simp only
      rw[hstep hk2]
      unfold IY
      rw[if_pos]
      rw[Bool.or_eq_true,Bool.not_eq_true']
      exact AA
     ·first|exact eN|refine eM ?_
     ·first|exact eN|refine eM ?_
    ·exact fun _=>by assumption
    ·assumption
    ·exact eV
    ·rename_i hc2
     have hk2:k<d.length:=by exact eV
     refine⟨⟨(k+1,true,(d.getD k d0).1),by simp only;omega,?_⟩,by simp only;omega,AC [(50,.nm 50)] rfl rfl ?_ ?_⟩
     ·simp only
      rw[hstep hk2]
      unfold IY
      rw[if_neg (by rw[hc2.1,hc2.2];simp),if_pos (by rw[Bool.or_eq_true,Bool.not_eq_true'];exact AA)]
     ·first|exact eN|refine eM ?_
     ·first|exact eN|refine eM ?_
    ·exact eV
    ·rename_i hc2
     have hk2:k<d.length:=by exact eV
     refine⟨⟨(k+1,true,nx),by simp only;omega,?_⟩,by simp only;omega,AC [(50,.nm 50)] rfl rfl ?_ ?_⟩
     ·simp only
      rw[hstep hk2]
      unfold IY
      rw[if_neg (by rw[hc2.1,hc2.2];simp),if_neg (by rw[Bool.or_eq_true,Bool.not_eq_true'];rintro (h|h)<;>simp_all)]
     ·first|exact eN|refine eM ?_
     ·first|exact eN|refine eM ?_
    ·simp only[AO]
     dsimp only[Ty.den]at *
     omega
    ·subst AA
     have hkd:d.take k=d:=List.take_of_length_le (by exact eV)
     rw[hkd]at hfold
     have hpk:Hq d out=(true,nx):=hfold
     have hlt:=Wo (d:=d) (out:=out) (by rw[hpk])
     rw[hpk]at hlt
     obtain⟨n',rfl⟩:∃n',n=n'+1:=⟨n-1,by omega⟩
     have hp2:IZ d n' (out++[nx])=Bb d:=by
      rw[←hp]
      show _=if (Hq d out).1=true then IZ d n' (out++[(Hq d out).2]) else out
      rw[hpk,if_pos rfl]
     have hlt:Hr d (out++[nx])<Hr d out:=hlt
     have hun:Hr d (out++[nx])≤n':=by omega
     refine⟨⟨(n',out++[nx],true),by simp only[List.length_append,List.length_singleton];omega,fun _=>⟨hun,hp2⟩,fun h=>by cases h⟩,by simp,AC [(50,.nm 50)] rfl rfl ?_ ?_⟩
     ·first|exact eN|refine eM ?_
     ·first|exact eN|refine eM ?_
    ·subst AA
     have hkd:d.take k=d:=List.take_of_length_le (by exact eV)
     rw[hkd]at hfold
     have hpk:Hq d out=(false,nx):=hfold
     have hp2:out=Bb d:=by
      rw[←hp]
      cases n with
      | zero=>rfl
      | succ n =>
       show _=if (Hq d out).1=true then IZ d n (out++[(Hq d out).2]) else out
       rw[hpk,if_neg (by simp)]
     refine⟨⟨(n,out,false),hlen,(fun h=>by cases h),fun _=>hp2⟩,by simp,AC [(50,.nm 50)] rfl rfl ?_ ?_⟩
     ·first|exact eN|refine eM ?_
     ·first|exact eN|refine eM ?_
  ·subst AA
   have hout:=hm2 rfl
   rw[hout]
   refine HQ [50] ?_
   exact AG hc [.tmp 2] rfl (.inl rfl) (by simp) (by first|exact eR|refine Av ?_)
end
/- Functions of grammarlabref03: Check. -/
section
attribute [local go_sem] Rj Rl NH QY
def Hs (d:List AH):Nat:=d.countP fun x=>x.2.1.length==0
theorem Wp (d:List AH) {k:Nat} (h:k<d.length):Hs (d.take (k+1))=Hs (d.take k)+if ((d.getD k d0).2.1.length==0)=true then 1 else 0:=by
 unfold Hs
 rw[Au d d0 h,List.countP_append,List.countP_cons,List.countP_nil]
 omega
theorem iV (d:List AH):Hs d≤d.length:=List.countP_le_length
def BG (d:List AH):Int :=
 if Ee d≠0 then Ee d else if Dg d≠0 then Dg d else if Jl d≠0 then Jl d else if Hs d≠1 then 1 else if (Bb d).length<d.length then 6 else 0
theorem Pa {d:List AH} (h:Ee d=0):d.length≤256:=by
 unfold Ee at h
 split at h
 ·cases h
 ·omega
def NI:Ah:={ ins:=[Es],pre:=fun _=>True,out:=fun(l,_)=>[.p Rb (BG l)] }
attribute [local go_sem] NI
theorem iW:Ao Tryz.prog 97 NI:=by
 refine AW Tryz.func97 (by kernel_rfl) rfl Tryz.ntmps97 (by decide) (by kernel_rfl) (AF [(126,Rj),(127,Rl),(128,NH),(129,QY)]) (AD m8 (AD nA (AD iR (AD iU AI)))) ?_
 rintro w0 O0 ⟨d,u⟩ hc - -
 simp only[NI,AM]
 repeat'(first|exact trivial|refine eS rfl ?_|refine AB ?_|refine rX [0,2,3,4,5,6,7,11,16,21,26,35,39,45] hc ?_ ?_|refine rC ?_ ?_<;>intro AA<;>try(cases AA;done))
 ·have h1:BG d=Ee d:=by unfold BG;rw[if_pos AA]
  exact AG hc [.tmp 2] rfl (.inl rfl) (by simp) (by rw[h1];first|exact eR|refine Av ?_)
 ·rename_i hs
  have hs:Ee d=0:=by simpa using hs
  have h1:BG d=Dg d:=by unfold BG;rw[if_neg (by rw[hs];simp),if_pos AA]
  exact AG hc [.tmp 2] rfl (.inl rfl) (by simp) (by rw[h1];first|exact eR|refine Av ?_)
 ·rename_i hs hn
  have hs:Ee d=0:=by simpa using hs
  have hn:Dg d=0:=by simpa using hn
  have h1:BG d=Jl d:=by unfold BG;rw[if_neg (by rw[hs];simp),if_neg (by rw[hn];simp),if_pos AA]
  exact AG hc [.tmp 2] rfl (.inl rfl) (by simp) (by rw[h1];first|exact eR|refine Av ?_)
 ·rename_i hs hn
  have hs:Ee d=0:=by simpa using hs
  have hn:Dg d=0:=by simpa using hn
  have hu:Jl d=0:=by simpa using AA
  have hd:=Pa hs
  have h1:BG d=if Hs d≠1 then 1 else if (Bb d).length<d.length then 6 else 0:=by
   unfold BG;rw[if_neg (by rw[hs];simp),if_neg (by rw[hn];simp),if_neg (by rw[hu];simp)]
  refine AJ (ι:={k:Nat//k≤d.length}) (fun k=>⟨[(0,.p Es d),(6,.p (.int .i64) (Hs (d.take k.1):Int)),(7,.p (.int .i64) (k.1:Int))],[]⟩) (fun k=>d.length-k.1) ⟨0,Nat.zero_le _⟩ (AC [] rfl rfl ?_ ?_) (fun k=>?_)
  ·first|exact eN|refine eM ?_
  ·first|exact eN|refine eM ?_
   rfl
  ·obtain⟨k,hk⟩:=k
   have hr:=iV (d.take k)
   have hr2:=List.length_take_le k d
   have hsu:=fun h:k<d.length=>Wp d h
   simp only
   repeat'(first|exact trivial|refine eS rfl ?_|refine AB ?_|refine rX [0,2,3,4,5,6,7,11,16,21,26,35,39,45] hc ?_ ?_|refine rC ?_ ?_<;>intro AA<;>try(cases AA;done))
   ·exact AA
   ·exact eV
   ·exact eV
   ·have hk2:k<d.length:=by exact eV
    have e:=hsu hk2
    rw[if_pos (by rw[beq_iff_eq];exact Int.ofNat_eq_zero.1 AA)]at e
    refine⟨⟨k+1,by omega⟩,by simp only;omega,AC [] rfl rfl ?_ ?_⟩
    ·first|exact eN|refine eM ?_
    ·simp only[e]
     first|exact eN|refine eM ?_
   ·exact eV
   ·have hk2:k<d.length:=by exact eV
    have e:=hsu hk2
    rw[if_neg (by rw[beq_iff_eq];exact fun h=>AA (Int.ofNat_eq_zero.2 h))]at e
    refine⟨⟨k+1,by omega⟩,by simp only;omega,AC [] rfl rfl ?_ ?_⟩
    ·first|exact eN|refine eM ?_
    ·simp only[e]
     first|exact eN|refine eM ?_
   ·have hk2:d.take k=d:=List.take_of_length_le (by exact eV)
    rw[hk2]at AA
    rw[if_pos (fun h=>AA (by rw[h];rfl))]at h1
    exact AG hc [.tmp 2] rfl (.inl rfl) (by simp) (by rw[h1];first|exact eR|refine Av ?_)
   ·show d.length≤100000
    omega
   ·rename_i hro
    have hk2:d.take k=d:=List.take_of_length_le (by exact eV)
    rw[hk2]at hro
    have hro:(Hs d:Int)=1:=by simpa using hro
    rw[if_neg (by omega),if_pos (Int.ofNat_lt.1 AA)]at h1
    exact AG hc [.tmp 2] rfl (.inl rfl) (by simp) (by rw[h1];first|exact eR|refine Av ?_)
   ·rename_i hro
    have hk2:d.take k=d:=List.take_of_length_le (by exact eV)
    rw[hk2]at hro
    have hro:(Hs d:Int)=1:=by simpa using hro
    rw[if_neg (by omega),if_neg (fun h=>absurd (Int.ofNat_le.1 AA) (Nat.not_le.2 h))]at h1
    exact AG hc [.tmp 2] rfl (.inl rfl) (by simp) (by rw[h1];first|exact eR|refine Av ?_)
end
/- Functions of grammarlabref03: Above. -/
section
attribute [local go_sem] Gt ED MO
def Kt (o:List ByteArray) (s:ByteArray):List ByteArray:=if Aa o s=true then o else o++[s]
def Ku (d:List AH) (s:ByteArray):List ByteArray:=(d.getD (A9 d s).toNat d0).2.1
def Jn (d:List AH):Nat→Nat→List ByteArray→List ByteArray
 | 0,_,o=>o
 | n+1,i,o=>if i<o.length then Jn d n (i+1) ((Ku d (o.getD i ByteArray.empty)).foldl Kt o) else o
def Kv (l:List ByteArray):List ByteArray:=l.foldl EE []
theorem Tm (l:List ByteArray):(Kv l).length≤l.length:=by
 have key:∀(l o:List ByteArray),(l.foldl EE o).length≤o.length+l.length:=by
  intro l
  induction l with
  | nil=>intro o;simp
  | cons x l ih =>
   intro o
   have h1:=ih (EE o x)
   have h2:=Ks o x
   simp only[List.foldl_cons,List.length_cons]
   omega
 have:=key l []
 simpa[Kv] using this
def MR (d:List AH) (s:ByteArray):List ByteArray:=if A9 d s<0 then [] else Kv (Jn d d.length 0 [s])
def Rm (d:List AH):Prop:=∀x∈d,∀s∈x.2.1,0≤A9 d s
theorem Tn (s:ByteArray):∀(l:List AH) (k:Nat),Ce s k l=-1∨((k:Int)≤Ce s k l∧Ce s k l<(k:Int)+l.length∧Am (l.getD ((Ce s k l).toNat-k) d0).1 s=true)
 | [],_=>.inl rfl
 | x :: l,k=>by
  simp only[Ce]
  split
  ·rename_i h
   right
   refine⟨by omega,by simp only[List.length_cons];omega,?_⟩
   have:((k:Int).toNat-k)=0:=by omega
   rw[this]
   exact h
  ·rcases Tn s l (k+1) with h|⟨h1,h2,h3⟩
   ·exact .inl h
   ·right
    refine⟨by omega,by simp only[List.length_cons];omega,?_⟩
    have:((Ce s (k+1) l).toNat-k)=((Ce s (k+1) l).toNat-(k+1))+1:=by omega
    rw[this]
    exact h3
theorem Db (d:List AH) (s:ByteArray):A9 d s<0∨(0≤A9 d s∧A9 d s<(d.length:Int)∧Am (d.getD (A9 d s).toNat d0).1 s=true):=by
 rcases Tn s d 0 with h|⟨h1,h2,h3⟩
 ·left;show Ce s 0 d<0;omega
 ·have h2:A9 d s<((0:Nat):Int)+d.length:=h2
  exact .inr ⟨h1,by omega,h3⟩
theorem JG {a b:ByteArray}:Am a b=true↔a.toList=b.toList:=by unfold Am;simp
theorem Ey {a b:ByteArray} (h:Am a b=true):Am b a=true:=JG.2 (JG.1 h).symm
theorem CE {a b c:ByteArray} (h:Am a b=true) (g:Am b c=true):Am a c=true:=JG.2 ((JG.1 h).trans (JG.1 g))
structure Vq (d:List AH) (o:List ByteArray):Prop where
 decl:∀s∈o,0≤A9 d s
 nd:o.Pairwise fun a b=>Am a b=false
theorem Jo (d:List AH):∀ {o:List ByteArray},Vq d o→(o.map fun s=>(A9 d s).toNat).Nodup
 | [],_=>by simp
 | s :: o,h=>by
  rw[List.map_cons,List.nodup_cons]
  have hnd:=List.pairwise_cons.1 h.nd
  refine⟨fun hm=>?_,Jo d ⟨fun x hx=>h.decl x (by simp[hx]),hnd.2⟩⟩
  obtain⟨x,hx,e⟩:=List.mem_map.1 hm
  have h1:=h.decl s (by simp)
  have h2:=h.decl x (by simp[hx])
  rcases Db d s with g|⟨_,_,g1⟩
  ·omega
  ·rcases Db d x with g|⟨_,_,g2⟩
   ·omega
   ·rw[e]at g2
    have:=hnd.1 x hx
    rw[CE (Ey g1) g2]at this
    cases this
theorem Vq.len {d:List AH} {o:List ByteArray} (h:Vq d o):o.length≤d.length:=by
 have:=D8 d.length (o.map fun s=>(A9 d s).toNat) (Jo d h) (fun j hj=>by
  obtain⟨s,hs,rfl⟩:=List.mem_map.1 hj
  have h1:=h.decl s hs
  rcases Db d s with g|⟨_,g,_⟩<;>omega)
 simpa using this
theorem NJ {o:List ByteArray} {s:ByteArray} (h:Aa o s=false):∀x∈o,Am x s=false:=fun x hx=>by
 cases hh:Am x s with
 | false=>rfl
 | true=>exact absurd h (by rw[show Aa o s=true from List.any_eq_true.2 ⟨x,hx,hh⟩];simp)
theorem fD {d:List AH} {o:List ByteArray} (h:Vq d o) {s:ByteArray} (hs:0≤A9 d s):Vq d (Kt o s):=by
 unfold Kt
 split
 ·exact h
 ·rename_i hc
  have hc:Aa o s=false:=by simpa using hc
  refine⟨fun x hx=>?_,?_⟩
  ·rcases List.mem_append.1 hx with hx|hx
   ·exact h.decl x hx
   ·have:x=s:=by simpa using hx
    rw[this];exact hs
  ·rw[List.pairwise_append]
   refine⟨h.nd,by simp,fun a ha b hb=>?_⟩
   have:b=s:=by simpa using hb
   rw[this]
   exact NJ hc a ha
theorem Wq {d:List AH}:∀ {l o:List ByteArray},(∀s∈l,0≤A9 d s)→Vq d o→Vq d (l.foldl Kt o)∧o.length≤(l.foldl Kt o).length
 | [],o,_,h=>⟨h,Nat.le_refl _⟩
 | s :: l,o,hl,h=>by
  obtain⟨g1,g2⟩:=Wq (l:=l) (fun x hx=>hl x (by simp[hx])) (fD h (hl s (by simp)))
  refine⟨g1,Nat.le_trans ?_ g2⟩
  unfold Kt
  split<;>simp
theorem Wr {d:List AH} (hd:Rm d) (s:ByteArray):∀x∈Ku d s,0≤A9 d x:=by
 intro x hx
 unfold Ku at hx
 by_cases h:(A9 d s).toNat<d.length
 ·exact hd _ (AE d d0 h) x hx
 ·rw[List.getD_eq_getElem?_getD,List.getElem?_eq_none (by omega)]at hx
  cases hx
def VL:Ah:={ ins:=[Es,T9],pre:=fun(d,_,_)=>Rm d∧List.length d≤256,out:=fun(d,s,_)=>[.p Br (MR d s)] }
theorem nB:Ao Tryz.prog 155 VL:=by
 refine AW Tryz.func155 (by kernel_rfl) rfl Tryz.ntmps155 (by decide) (by kernel_rfl) (AF [(152,Gt),(131,ED),(122,MO)]) (AD Kp (AD Gb (AD OP AI))) ?_
 rintro w0 O0 ⟨d,s,u⟩ hc ⟨⟨hdl,hall⟩,-⟩ ⟨hsup,hd⟩
 have hd:d.length≤256:=hd
 simp only[VL,AM]
 repeat'(first|exact trivial|refine eS rfl ?_|refine AB ?_|refine rX [0,1,4,5,6,7,8,9,10,14,20,36,45,56] hc ?_ ?_|refine rC ?_ ?_<;>intro AA<;>try(cases AA;done))
 ·have h1:MR d s=[]:=by unfold MR;rw[if_pos AA]
  exact AG hc [.tmp 4] rfl (.inl rfl) (by simp) (by rw[h1];first|exact eR|refine Av ?_)
 ·have h1:MR d s=Kv (Jn d d.length 0 [s]):=by unfold MR;rw[if_neg (Int.not_lt.2 AA)]
  have hA0:Vq d [s]:=⟨fun x hx=>by
   have:x=s:=by simpa using hx
   rw[this];exact AA,by simp⟩
  refine AJ (ι:={x:Nat×List ByteArray//x.1≤x.2.length∧Vq d x.2∧Jn d (d.length-x.1) x.1 x.2=Jn d d.length 0 [s]}) (fun x=>⟨[(0,.p Es d),(1,.p T9 s),(5,.sr 16 T9 0 x.1.2.length),(6,.p (.int .i64) (x.1.1:Int))],[(16,.arr 9 T9 x.1.2)]⟩) (fun x=>d.length-x.1.1) ⟨(0,[s]),by simp,hA0,rfl⟩ (AC [(16,.nm 16)] rfl rfl ?_ ?_) (fun x=>?_)
  ·first|exact eN|refine eM ?_
  ·first|exact eN|refine eM ?_
  ·obtain⟨⟨i,o⟩,hi,hA,hg⟩:=x
   simp only at hi hA hg
   have hol:=hA.len
   simp only
   repeat'(first|exact trivial|refine eS rfl ?_|refine AB ?_|refine rX [0,1,4,5,6,7,8,9,10,14,20,36,45,56] hc ?_ ?_|refine rC ?_ ?_<;>intro AA<;>try(cases AA;done))
   ·have hi2:i<o.length:=by exact eV
    have hde:=hA.decl _ (AE o ByteArray.empty hi2)
    refine⟨AA,hde,?_⟩
    rcases Db d (o.getD i ByteArray.empty) with g|⟨_,g,_⟩
    ·omega
    ·exact g
   ·have hi2:i<o.length:=by exact eV
    have hde:=hA.decl _ (AE o ByteArray.empty hi2)
    have hsd:=Wr hsup (o.getD i ByteArray.empty)
    have hnext:Jn d (d.length-(i+1)) (i+1) ((Ku d (o.getD i ByteArray.empty)).foldl Kt o)=Jn d d.length 0 [s]:=by
     rw[←hg]
     obtain⟨m,hm⟩:∃m,d.length-i=m+1:=⟨d.length-i-1,by omega⟩
     have hm2:d.length-(i+1)=m:=by omega
     rw[hm,hm2]
     show _=if i<o.length then Jn d m (i+1) ((Ku d (o.getD i ByteArray.empty)).foldl Kt o) else o
     rw[if_pos hi2]
    have hsl:(Ku d (o.getD i ByteArray.empty)).length≤AO:=by
     rcases Db d (o.getD i ByteArray.empty) with g|⟨_,g,_⟩
     ·omega
     ·exact(hall _ (AE d d0 (k:=(A9 d (o.getD i ByteArray.empty)).toNat) (by omega))).2.1.1
    have hsu:(List.getD d (A9 d (o.getD i ByteArray.empty)).toNat (ByteArray.empty,[],[])).2.1=Ku d (o.getD i ByteArray.empty):=rfl
    rw[hsu]
    generalize Ku d (o.getD i ByteArray.empty)=sup at *
    simp only[AO]at hsl
    refine AJ (ι:={k:Nat//k≤sup.length}) (fun k=>⟨[(0,.p Es d),(1,.p T9 s),(5,.sr 16 T9 0 ((sup.take k.1).foldl Kt o).length),(6,.p (.int .i64) (i:Int)),(7,.p Br sup),(8,.p (.int .i64) (k.1:Int))],[(16,.arr 9 T9 ((sup.take k.1).foldl Kt o))]⟩) (fun k=>sup.length-k.1) ⟨0,Nat.zero_le _⟩ (AC [(16,.nm 16)] rfl rfl ?_ ?_) (fun k=>?_)
    ·first|exact eN|refine eM ?_
     rfl
    ·first|exact eN|refine eM ?_
     rfl
    ·obtain⟨k,hk⟩:=k
     have hok:=Wq (l:=sup.take k) (o:=o) (fun x hx=>hsd x (List.mem_of_mem_take hx)) hA
     have hok2:=hok.1.len
     have hstep:=fun h:k<sup.length=>Ea Kt sup ByteArray.empty o h
     simp only
     generalize ho2:(sup.take k).foldl Kt o=o2 at *
     repeat'(first|exact trivial|refine eS rfl ?_|refine AB ?_|refine rX [0,1,4,5,6,7,8,9,10,14,20,36,45,56] hc ?_ ?_|refine rC ?_ ?_<;>intro AA<;>try(cases AA;done))
     ·exact AA
     ·refine⟨by exact eV,?_⟩
      simp only[AO]
      dsimp only[Ty.den]at *
      omega
     ·exact eV
     ·have hk2:k<sup.length:=by exact eV
      have e:=hstep hk2
      have e2:Kt o2 (sup.getD k ByteArray.empty)=o2++[sup.getD k ByteArray.empty]:=by unfold Kt;rw[if_neg (by rw[AA];simp)]
      rw[e2]at e
      refine⟨⟨k+1,by omega⟩,by simp only;omega,AC [(16,.nm 16)] rfl rfl ?_ ?_⟩
      ·simp only[e]
       first|exact eN|refine eM ?_
      ·simp only[e]
       first|exact eN|refine eM ?_
     ·exact eV
     ·have hk2:k<sup.length:=by exact eV
      have e:=hstep hk2
      have e2:Kt o2 (sup.getD k ByteArray.empty)=o2:=by unfold Kt;rw[if_pos AA]
      rw[e2]at e
      refine⟨⟨k+1,by omega⟩,by simp only;omega,AC [(16,.nm 16)] rfl rfl ?_ ?_⟩
      ·simp only[e]
       first|exact eN|refine eM ?_
      ·simp only[e]
       first|exact eN|refine eM ?_
     ·exact eV
     ·have hk2:sup.take k=sup:=List.take_of_length_le (by exact eV)
      rw[hk2]at ho2
      rw[ho2]at hnext
      have hok1:=hok.1
      have hokl:=hok.2
      refine⟨⟨(i+1,o2),by simp only;omega,hok1,hnext⟩,by simp only;omega,AC [(16,.nm 16)] rfl rfl ?_ ?_⟩
      ·first|exact eN|refine eM ?_
      ·first|exact eN|refine eM ?_
   ·have hoe:o=Jn d d.length 0 [s]:=by
     rw[←hg]
     cases hm:d.length-i with
     | zero=>rfl
     | succ m =>
      show _=if i<o.length then _ else o
      rw[if_neg (by exact eV)]
    rw[←hoe]at h1
    refine AJ (ι:={j:Nat//j≤o.length}) (fun j=>⟨[(0,.p Es d),(5,.sr 16 T9 0 o.length),(9,.p Br ((o.take j.1).foldl EE [])),(10,.p (.int .i64) (j.1:Int))],[(16,.arr 9 T9 o)]⟩) (fun j=>o.length-j.1) ⟨0,Nat.zero_le _⟩ (AC [(16,.nm 16)] rfl rfl ?_ ?_) (fun j=>?_)
    ·first|exact eN|refine eM ?_
    ·first|exact eN|refine eM ?_
     rfl
    ·obtain⟨j,hj⟩:=j
     have hsj:=fun h:j<o.length=>Ea EE o ByteArray.empty [] h
     simp only
     repeat'(first|exact trivial|refine eS rfl ?_|refine AB ?_|refine rX [0,1,4,5,6,7,8,9,10,14,20,36,45,56] hc ?_ ?_|refine rC ?_ ?_<;>intro AA<;>try(cases AA;done))
     ·refine⟨AA,?_⟩
      have:=Tm (o.take j)
      have h3:=List.length_take_le j o
      unfold Kv at this
      dsimp only[Ty.den]at *
      omega
     ·exact eV
     ·have hj2:j<o.length:=by exact eV
      have e:=hsj hj2
      refine⟨⟨j+1,by omega⟩,by simp only;omega,AC [(16,.nm 16)] rfl rfl ?_ ?_⟩
      ·first|exact eN|refine eM ?_
      ·simp only[e]
       first|exact eN|refine eM ?_
     ·have hj2:o.take j=o:=List.take_of_length_le (by exact eV)
      rw[hj2]
      exact AG hc [.tmp 4] rfl (.inl rfl) (by simp) (by rw[h1];unfold Kv;first|exact eR|refine Av ?_)
end
/- Functions of grammarlabref03: Below. -/
section
attribute [local go_sem] Gt ED MO
def FI (s:ByteArray) (o:List ByteArray) (x:AH):List ByteArray:=if (Aa x.2.1 s&&!Aa o x.1)=true then o++[x.1] else o
def Dh (d:List AH):Nat→Nat→List ByteArray→List ByteArray
 | 0,_,o=>o
 | n+1,i,o=>if i<o.length then Dh d n (i+1) (d.foldl (FI (o.getD i ByteArray.empty)) o) else o
def Di (d:List AH) (s:ByteArray):List ByteArray:=if A9 d s<0 then [] else Kv (Dh d d.length 0 [s])
theorem Rn (s:ByteArray):∀(l:List AH) (k:Nat) (x:AH),x∈l→Am x.1 s=true→0≤Ce s k l
 | y :: l,k,x,hx,h=>by
  simp only[Ce]
  split
  ·omega
  ·rename_i hc
   rcases List.mem_cons.1 hx with rfl|hx
   ·exact absurd h hc
   ·exact Rn s l (k+1) x hx h
theorem Ez {d:List AH} {x:AH} (hx:x∈d):0≤A9 d x.1:=Rn x.1 d 0 x hx (Ex _)
theorem uE {d:List AH} {o:List ByteArray} (h:Vq d o) (s:ByteArray) {x:AH} (hx:x∈d):Vq d (FI s o x):=by
 unfold FI
 split
 ·rename_i hc
  rw[Bool.and_eq_true,Bool.not_eq_true']at hc
  have:=fD h (Ez hx)
  unfold Kt at this
  rwa [if_neg (by rw[hc.2];simp)]at this
 ·exact h
theorem Ro {d:List AH} (s:ByteArray):∀ {l:List AH} {o:List ByteArray},(∀x∈l,x∈d)→Vq d o→Vq d (l.foldl (FI s) o)∧o.length≤(l.foldl (FI s) o).length
 | [],o,_,h=>⟨h,Nat.le_refl _⟩
 | x :: l,o,hl,h=>by
  obtain⟨g1,g2⟩:=Ro s (l:=l) (fun y hy=>hl y (by simp[hy])) (uE h s (hl x (by simp)))
  refine⟨g1,Nat.le_trans ?_ g2⟩
  unfold FI
  split<;>simp
theorem OV (s:ByteArray) {i:Nat}:∀ {l:List AH} {o:List ByteArray},i<o.length→(l.foldl (FI s) o).getD i ByteArray.empty=o.getD i ByteArray.empty
 | [],_,_=>rfl
 | x :: l,o,h=>by
  have h2:i<(FI s o x).length∧(FI s o x).getD i ByteArray.empty=o.getD i ByteArray.empty:=by
   unfold FI
   split
   ·refine⟨by rw[List.length_append];omega,?_⟩
    simp only[List.getD_eq_getElem?_getD]
    rw[List.getElem?_append_left h]
   ·exact⟨h,rfl⟩
  rw[List.foldl_cons,OV s h2.1,h2.2]
def Rp:Ah:={ ins:=[Es,T9],pre:=fun(d,_,_)=>List.length d≤256,out:=fun(d,s,_)=>[.p Br (Di d s)] }
attribute [local go_sem] Rp
theorem nC:Ao Tryz.prog 130 Rp:=by
 refine AW Tryz.func130 (by kernel_rfl) rfl Tryz.ntmps130 (by decide) (by kernel_rfl) (AF [(152,Gt),(131,ED),(122,MO)]) (AD Kp (AD Gb (AD OP AI))) ?_
 rintro w0 O0 ⟨d,s,u⟩ hc-hd
 have hd:d.length≤256:=hd
 simp only[Rp,AM]
 repeat'(first|exact trivial|refine eS rfl ?_|refine AB ?_|refine rX [0,1,4,5,6,7,8,9,13,19,25,47,59] hc ?_ ?_|refine rC ?_ ?_<;>intro AA<;>try(cases AA;done))
 ·have h1:Di d s=[]:=by unfold Di;rw[if_pos AA]
  exact AG hc [.tmp 4] rfl (.inl rfl) (by simp) (by rw[h1];first|exact eR|refine Av ?_)
 ·have h1:Di d s=Kv (Dh d d.length 0 [s]):=by unfold Di;rw[if_neg (Int.not_lt.2 AA)]
  have hA0:Vq d [s]:=⟨fun x hx=>by
   have:x=s:=by simpa using hx
   rw[this];exact AA,by simp⟩
  refine AJ (ι:={x:Nat×List ByteArray//x.1≤x.2.length∧Vq d x.2∧Dh d (d.length-x.1) x.1 x.2=Dh d d.length 0 [s]}) (fun x=>⟨[(0,.p Es d),(5,.sr 15 T9 0 x.1.2.length),(6,.p (.int .i64) (x.1.1:Int))],[(15,.arr 9 T9 x.1.2)]⟩) (fun x=>d.length-x.1.1) ⟨(0,[s]),by simp,hA0,rfl⟩ (AC [(15,.nm 15)] rfl rfl ?_ ?_) (fun x=>?_)
  ·first|exact eN|refine eM ?_
  ·first|exact eN|refine eM ?_
  ·obtain⟨⟨i,o⟩,hi,hA,hg⟩:=x
   simp only at hi hA hg
   have hol:=hA.len
   simp only
   repeat'(first|exact trivial|refine eS rfl ?_|refine AB ?_|refine rX [0,1,4,5,6,7,8,9,13,19,25,47,59] hc ?_ ?_|refine rC ?_ ?_<;>intro AA<;>try(cases AA;done))
   ·have hi2:i<o.length:=by exact eV
    have hnext:Dh d (d.length-(i+1)) (i+1) (d.foldl (FI (o.getD i ByteArray.empty)) o)=Dh d d.length 0 [s]:=by
     rw[←hg]
     obtain⟨m,hm⟩:∃m,d.length-i=m+1:=⟨d.length-i-1,by omega⟩
     have hm2:d.length-(i+1)=m:=by omega
     rw[hm,hm2]
     show _=if i<o.length then Dh d m (i+1) (d.foldl (FI (o.getD i ByteArray.empty)) o) else o
     rw[if_pos hi2]
    refine AJ (ι:={k:Nat//k≤d.length}) (fun k=>⟨[(0,.p Es d),(5,.sr 15 T9 0 ((d.take k.1).foldl (FI (o.getD i ByteArray.empty)) o).length),(6,.p (.int .i64) (i:Int)),(7,.p (.int .i64) (k.1:Int))],[(15,.arr 9 T9 ((d.take k.1).foldl (FI (o.getD i ByteArray.empty)) o))]⟩) (fun k=>d.length-k.1) ⟨0,Nat.zero_le _⟩ (AC [(15,.nm 15)] rfl rfl ?_ ?_) (fun k=>?_)
    ·first|exact eN|refine eM ?_
     rfl
    ·first|exact eN|refine eM ?_
     rfl
    ·obtain⟨k,hk⟩:=k
     have hok:=Ro (o.getD i ByteArray.empty) (l:=d.take k) (o:=o) (fun x hx=>List.mem_of_mem_take hx) hA
     have hok2:=hok.1.len
     have hstep:=fun h:k<d.length=>Ea (FI (o.getD i ByteArray.empty)) d d0 o h
     have hpre:((d.take k).foldl (FI (o.getD i ByteArray.empty)) o).getD i ByteArray.empty=o.getD i ByteArray.empty:=OV _ hi2
     simp only
     generalize ho2:(d.take k).foldl (FI (o.getD i ByteArray.empty)) o=o2 at *
     repeat'(first|exact trivial|refine eS rfl ?_|refine AB ?_|refine rX [0,1,4,5,6,7,8,9,13,19,25,47,59] hc ?_ ?_|refine rC ?_ ?_<;>intro AA<;>try(cases AA;done))
     ·have hl:=hok.2
      refine⟨AA,?_,fun _=>AA⟩
      dsimp only[Ty.den]at *
      omega
     ·refine⟨by assumption,?_⟩
      simp only[AO]
      dsimp only[Ty.den]at *
      omega
     ·exact eV
     ·have hk2:k<d.length:=by exact eV
      have e:=hstep hk2
      rw[hpre]at AA
      have e2:FI (o.getD i ByteArray.empty) o2 (d.getD k d0)=o2++[(d.getD k d0).1]:=by
       unfold FI;rw[if_pos (by rw[Bool.and_eq_true,Bool.not_eq_true'];exact AA)]
      rw[e2]at e
      refine⟨⟨k+1,by omega⟩,by simp only;omega,AC [(15,.nm 15)] rfl rfl ?_ ?_⟩
      ·simp only[e]
       first|exact eN|refine eM ?_
      ·simp only[e]
       first|exact eN|refine eM ?_
     ·exact eV
     ·have hk2:k<d.length:=by exact eV
      have e:=hstep hk2
      rw[hpre]at AA
      have e2:FI (o.getD i ByteArray.empty) o2 (d.getD k d0)=o2:=by
       unfold FI
       rw[if_neg]
       rw[Bool.and_eq_true,Bool.not_eq_true']
       rintro⟨h1,h2⟩
       rw[AA h1]at h2
       cases h2
      rw[e2]at e
      refine⟨⟨k+1,by omega⟩,by simp only;omega,AC [(15,.nm 15)] rfl rfl ?_ ?_⟩
      ·simp only[e]
       first|exact eN|refine eM ?_
      ·simp only[e]
       first|exact eN|refine eM ?_
     ·exact eV
     ·have hk2:d.take k=d:=List.take_of_length_le (by exact eV)
      rw[hk2]at ho2
      rw[ho2]at hnext
      have hok1:=hok.1
      have hokl:=hok.2
      refine⟨⟨(i+1,o2),by simp only;omega,hok1,hnext⟩,by simp only;omega,AC [(15,.nm 15)] rfl rfl ?_ ?_⟩
      ·first|exact eN|refine eM ?_
      ·first|exact eN|refine eM ?_
   ·have hoe:o=Dh d d.length 0 [s]:=by
     rw[←hg]
     cases hm:d.length-i with
     | zero=>rfl
     | succ m =>
      show _=if i<o.length then _ else o
      rw[if_neg (by exact eV)]
    rw[←hoe]at h1
    refine AJ (ι:={j:Nat//j≤o.length}) (fun j=>⟨[(0,.p Es d),(5,.sr 15 T9 0 o.length),(8,.p Br ((o.take j.1).foldl EE [])),(9,.p (.int .i64) (j.1:Int))],[(15,.arr 9 T9 o)]⟩) (fun j=>o.length-j.1) ⟨0,Nat.zero_le _⟩ (AC [(15,.nm 15)] rfl rfl ?_ ?_) (fun j=>?_)
    ·first|exact eN|refine eM ?_
    ·first|exact eN|refine eM ?_
     rfl
    ·obtain⟨j,hj⟩:=j
     have hsj:=fun h:j<o.length=>Ea EE o ByteArray.empty [] h
     simp only
     repeat'(first|exact trivial|refine eS rfl ?_|refine AB ?_|refine rX [0,1,4,5,6,7,8,9,13,19,25,47,59] hc ?_ ?_|refine rC ?_ ?_<;>intro AA<;>try(cases AA;done))
     ·refine⟨AA,?_⟩
      have:=Tm (o.take j)
      have h3:=List.length_take_le j o
      unfold Kv at this
      dsimp only[Ty.den]at *
      omega
     ·exact eV
     ·have hj2:j<o.length:=by exact eV
      have e:=hsj hj2
      refine⟨⟨j+1,by omega⟩,by simp only;omega,AC [(15,.nm 15)] rfl rfl ?_ ?_⟩
      ·first|exact eN|refine eM ?_
      ·simp only[e]
       first|exact eN|refine eM ?_
     ·have hj2:o.take j=o:=List.take_of_length_le (by exact eV)
      rw[hj2]
      exact AG hc [.tmp 4] rfl (.inl rfl) (by simp) (by rw[h1];unfold Kv;first|exact eR|refine Av ?_)
end
/- Functions of grammarlabref03: declared, Maximal. -/
section
attribute [local go_sem] Gt MO VL ED
def KH (d:List AH) (o:List ByteArray) (x:ByteArray):List ByteArray:=if 0≤A9 d x then EE o x else o
def Ca (d:List AH) (l:List ByteArray):List ByteArray:=l.foldl (KH d) []
theorem Io (d:List AH) (l:List ByteArray):(Ca d l).length≤l.length:=by
 have key:∀(l o:List ByteArray),(l.foldl (KH d) o).length≤o.length+l.length:=by
  intro l
  induction l with
  | nil=>intro o;simp
  | cons x l ih =>
   intro o
   have h1:=ih (KH d o x)
   have h2:(KH d o x).length≤o.length+1:=by
    unfold KH
    split
    ·exact Ks o x
    ·omega
   simp only[List.foldl_cons,List.length_cons]
   omega
 have:=key l []
 simpa[Ca] using this
def LS:Ah:={ ins:=[Es,Br],pre:=fun(_,l,_)=>List.length l≤100000,out:=fun(d,l,_)=>[.p Br (Ca d l)] }
attribute [local go_sem] LS
theorem Ws:Ao Tryz.prog 154 LS:=by
 refine AW Tryz.func154 (by kernel_rfl) rfl Tryz.ntmps154 (by decide) (by kernel_rfl) (AF [(152,Gt),(122,MO)]) (AD Kp (AD OP AI)) ?_
 rintro w0 O0 ⟨d,l,u⟩ hc-hl
 have hl:l.length≤100000:=hl
 simp only[LS,AM]
 repeat'(first|exact trivial|refine eS rfl ?_|refine AB ?_|refine rX [0,1,4,5,6,10,19] hc ?_ ?_|refine rC ?_ ?_<;>intro AA<;>try(cases AA;done))
 refine AJ (ι:={k:Nat//k≤l.length}) (fun k=>⟨[(0,.p Es d),(1,.p Br l),(5,.p Br (Ca d (l.take k.1))),(6,.p (.int .i64) (k.1:Int))],[]⟩) (fun k=>l.length-k.1) ⟨0,Nat.zero_le _⟩ (AC [] rfl rfl ?_ ?_) (fun k=>?_)
 ·first|exact eN|refine eM ?_
 ·first|exact eN|refine eM ?_
  rfl
 ·obtain⟨k,hk⟩:=k
  have hn:=Io d (l.take k)
  have hn2:=List.length_take_le k l
  have hs:=fun h:k<l.length=>Ea (KH d) l ByteArray.empty [] h
  simp only
  repeat'(first|exact trivial|refine eS rfl ?_|refine AB ?_|refine rX [0,1,4,5,6,10,19] hc ?_ ?_|refine rC ?_ ?_<;>intro AA<;>try(cases AA;done))
  ·exact AA
  ·exact⟨by assumption,by omega⟩
  ·exact eV
  ·have hk2:k<l.length:=by exact eV
   have e:Ca d (l.take (k+1))=KH d (Ca d (l.take k)) (l.getD k ByteArray.empty):=hs hk2
   unfold KH at e
   rw[if_pos AA]at e
   refine⟨⟨k+1,by omega⟩,by simp only;omega,AC [] rfl rfl ?_ ?_⟩
   ·first|exact eN|refine eM ?_
   ·simp only[e]
    first|exact eN|refine eM ?_
  ·exact eV
  ·have hk2:k<l.length:=by exact eV
   have e:Ca d (l.take (k+1))=KH d (Ca d (l.take k)) (l.getD k ByteArray.empty):=hs hk2
   unfold KH at e
   rw[if_neg (Int.not_le.2 AA)]at e
   refine⟨⟨k+1,by omega⟩,by simp only;omega,AC [] rfl rfl ?_ ?_⟩
   ·first|exact eN|refine eM ?_
   ·simp only[e]
    first|exact eN|refine eM ?_
  ·have hk2:l.take k=l:=List.take_of_length_le (by exact eV)
   rw[hk2]
   exact AG hc [.tmp 4] rfl (.inl rfl) (by simp) (by first|exact eR|refine Av ?_)
def nD (d:List AH) (all:List ByteArray) (i:Nat) (k:Nat):Bool:=(k:Int)==(i:Int)||!Aa (MR d (all.getD i ByteArray.empty)) (all.getD k ByteArray.empty)
def Tp (d:List AH) (all:List ByteArray) (i n:Nat):Bool:=(List.range n).all (nD d all i)
def QE (d:List AH) (all:List ByteArray) (n:Nat):List ByteArray:=((List.range n).filter fun i=>Tp d all i all.length).map fun i=>all.getD i ByteArray.empty
def Bj (d:List AH) (l:List ByteArray):List ByteArray:=QE d (Ca d l) (Ca d l).length
theorem iX (d:List AH) (all:List ByteArray) (n:Nat):QE d all (n+1)=QE d all n++if Tp d all n all.length=true then [all.getD n ByteArray.empty] else []:=by
 unfold QE
 rw[List.range_succ,List.filter_append,List.map_append]
 congr 1
 rw[List.filter_cons,List.filter_nil]
 split<;>rfl
theorem Wt (d:List AH) (all:List ByteArray) (n:Nat):(QE d all n).length≤n:=by
 unfold QE
 rw[List.length_map]
 exact Nat.le_trans (List.length_filter_le _ _) (by simp)
theorem Y0 (d:List AH) (all:List ByteArray) (i n:Nat):Tp d all i (n+1)=(Tp d all i n&&nD d all i n):=by
 unfold Tp
 rw[List.range_succ,List.all_append]
 simp
def Ht:Ah:={ ins:=[Es,Br],pre:=fun(d,l,_)=>Rm d∧List.length d≤256∧List.length l≤100000,out:=fun(d,l,_)=>[.p Br (Bj d l)] }
attribute [local go_sem] Ht
theorem Rq:Ao Tryz.prog 136 Ht:=by
 refine AW Tryz.func136 (by kernel_rfl) rfl Tryz.ntmps136 (by decide) (by kernel_rfl) (AF [(154,LS),(155,VL),(131,ED)]) (AD Ws (AD nB (AD Gb AI))) ?_
 rintro w0 O0 ⟨d,l,u⟩ hc-⟨hsup,hd,hl⟩
 have hd:d.length≤256:=hd
 have hl:l.length≤100000:=hl
 have hml:Bj d l=QE d (Ca d l) (Ca d l).length:=rfl
 have hal:=Io d l
 simp only[Ht,AM]
 repeat'(first|exact trivial|refine eS rfl ?_|refine AB ?_|refine rX [0,1,4,5,6,7,8,9,10,17,29,47] hc ?_ ?_|refine rC ?_ ?_<;>intro AA<;>try(cases AA;done))
 ·exact hl
 ·rw[hml]
  generalize Ca d l=all at *
  refine AJ (ι:={i:Nat//i≤all.length}) (fun i=>⟨[(0,.p Es d),(5,.sr 54 T9 0 (QE d all i.1).length),(6,.p Br all),(7,.p (.int .i64) (i.1:Int))],[(54,.arr 9 T9 (QE d all i.1))]⟩) (fun i=>all.length-i.1) ⟨0,Nat.zero_le _⟩ (AC [(54,.nil)] rfl rfl ?_ ?_) (fun i=>?_)
  ·first|exact eN|refine eM ?_
   rfl
  ·first|exact eN|refine eM ?_
   rfl
  ·obtain⟨i,hi⟩:=i
   have hgl:=Wt d all i
   have hgs:=iX d all i
   simp only
   repeat'(first|exact trivial|refine eS rfl ?_|refine AB ?_|refine rX [0,1,4,5,6,7,8,9,10,17,29,47] hc ?_ ?_|refine rC ?_ ?_<;>intro AA<;>try(cases AA;done))
   ·exact⟨AA,hsup,hd⟩
   ·have hi2:i<all.length:=by exact eV
    refine AJ (ι:={k:Nat//k≤all.length}) (fun k=>⟨[(0,.p Es d),(5,.sr 54 T9 0 (QE d all i).length),(6,.p Br all),(7,.p (.int .i64) (i:Int)),(8,.p Br (MR d (all.getD i ByteArray.empty))),(9,.p .bool (Tp d all i k.1)),(10,.p (.int .i64) (k.1:Int))],[(54,.arr 9 T9 (QE d all i))]⟩) (fun k=>all.length-k.1) ⟨0,Nat.zero_le _⟩ (AC [(54,.nm 54)] rfl rfl ?_ ?_) (fun k=>?_)
    ·first|exact eN|refine eM ?_
    ·first|exact eN|refine eM ?_
     rfl
    ·obtain⟨k,hk⟩:=k
     have hfs:=Y0 d all i k
     simp only
     repeat'(first|exact trivial|refine eS rfl ?_|refine AB ?_|refine rX [0,1,4,5,6,7,8,9,10,17,29,47] hc ?_ ?_|refine rC ?_ ?_<;>intro AA<;>try(cases AA;done))
     ·exact fun _=>AA
     ·exact eV
     ·have hk2:k<all.length:=by exact eV
      refine⟨⟨k+1,by omega⟩,by simp only;omega,AC [(54,.nm 54)] rfl rfl ?_ ?_⟩
      ·first|exact eN|refine eM ?_
      ·simp only[hfs]
       unfold nD
       first|exact eN|refine eM ?_
     ·refine⟨by assumption,?_⟩
      simp only[AO]
      omega
     ·exact eV
     ·have hk2:k=all.length:=by exact eV
      subst hk2
      rw[AA,if_pos rfl]at hgs
      refine⟨⟨i+1,by omega⟩,by simp only;omega,AC [(54,.nm 54)] rfl rfl ?_ ?_⟩
      ·simp only[hgs]
       first|exact eN|refine eM ?_
      ·simp only[hgs]
       first|exact eN|refine eM ?_
     ·exact eV
     ·have hk2:k=all.length:=by exact eV
      subst hk2
      rw[AA,if_neg (by simp),List.append_nil]at hgs
      refine⟨⟨i+1,by omega⟩,by simp only;omega,AC [(54,.nm 54)] rfl rfl ?_ ?_⟩
      ·simp only[hgs]
       first|exact eN|refine eM ?_
      ·simp only[hgs]
       first|exact eN|refine eM ?_
   ·have hi2:i=all.length:=by exact eV
    subst hi2
    refine HQ [54] ?_
    exact AG hc [.tmp 4] rfl (.inl rfl) (by simp) (by first|exact eR|refine Av ?_)
end
/- Functions of grammarlabref02: Of. -/
section
attribute [local go_sem] Fl
def iY (b:List Int) (x:Int):List Int:=b.set (x.tdiv 64).toNat (Bt .or .u64 (b.getD (x.tdiv 64).toNat 0) (Pt .u64 1 (x.tmod 64)))
def kN (l:List Int):List Int:=l.foldl iY (List.replicate 64 0)
def uF (x:Int):Bool:=!(decide (x<0)||decide (4095<x))
def p3 (l:List Int):List Int×Int:=if l.all uF=true then (A7 (kN l),0) else ([],2)
theorem NK (l:List Int):(kN l).length=64:=by
 have key:∀(l b:List Int),(l.foldl iY b).length=b.length:=by
  intro l
  induction l with
  | nil=>intro b;rfl
  | cons x l ih =>
   intro b
   rw[List.foldl_cons,ih]
   simp[iY]
 unfold kN
 rw[key]
 simp
def ofS:Ah:={ ins:=[Jj],pre:=fun _=>True,out:=fun(l,_)=>[.p EC (p3 l).1,.p Rb (p3 l).2] }
theorem A14:Ao Tryz.prog 132 ofS:=by
 refine AW Tryz.func132 (by kernel_rfl) rfl Tryz.ntmps132 (by decide) (by kernel_rfl) (AF [(124,Fl)]) (AD LR AI) ?_
 rintro w0 O0 ⟨l,u⟩ hc ⟨⟨hl,-⟩,-⟩ -
 simp only[AO]at hl
 simp only[ofS,AM]
 repeat'(first|exact trivial|refine eS rfl ?_|refine AB ?_|refine rX [0,2,3,4,5,10,24] hc ?_ ?_|refine rC ?_ ?_<;>intro AA<;>try(cases AA;done))
 ·simp only[AO];omega
 ·refine AJ (ι:={k:Nat//k≤l.length∧(l.take k).all uF=true}) (fun k=>⟨[(0,.p Jj l),(4,.sr 6 NE 0 (kN (l.take k.1)).length),(5,.p (.int .i64) (k.1:Int))],[(6,.arr 155 NE (kN (l.take k.1)))]⟩) (fun k=>l.length-k.1) ⟨0,Nat.zero_le _,rfl⟩ (AC [(6,.nm 6)] rfl rfl ?_ ?_) (fun k=>?_)
  ·first|exact eN|refine eM ?_
   rfl
  ·first|exact eN|refine eM ?_
   rfl
  ·obtain⟨k,hk,hf⟩:=k
   have hlen:=NK (l.take k)
   have hs:∀h:k<l.length,kN (l.take (k+1))=iY (kN (l.take k)) (l.getD k 0):=fun h=>Ea iY l 0 _ h
   simp only
   repeat'(first|exact trivial|refine eS rfl ?_|refine AB ?_|refine rX [0,2,3,4,5,10,24] hc ?_ ?_|refine rC ?_ ?_<;>intro AA<;>try(cases AA;done))
   ·exact⟨AA,fun _=>AA⟩
   ·have hk2:k<l.length:=by exact eV
    have h1:p3 l=([],2):=by
     unfold p3
     rw[if_neg]
     intro h
     have:=List.all_eq_true.1 h _ (AE l 0 hk2)
     unfold uF at this
     rw[Bool.not_eq_true',Bool.or_eq_false_iff,decide_eq_false_iff_not,decide_eq_false_iff_not]at this
     rcases AA with h|h
     ·exact this.1 h
     ·exact this.2 h
    exact AG hc [.tmp 2,.tmp 3] rfl (.inl rfl) (by simp) (by rw[h1];first|exact eR|refine Av ?_)
   ·obtain⟨h0,h1⟩:=AA
    have e1:Int.tdiv (l.getD k 0) 64=l.getD k 0 / 64:=Int.tdiv_eq_ediv_of_nonneg h0
    have e2:Int.tmod (l.getD k 0) 64=l.getD k 0 % 64:=Int.tmod_eq_emod_of_nonneg h0
    rw[e1,e2,hlen]
    refine⟨?_,⟨by decide,?_,?_⟩,?_,⟨by decide,?_,?_⟩,⟨?_,?_⟩,?_,⟨by decide,?_,?_⟩,⟨?_,?_⟩,?_,?_,?_⟩<;>exact eV
   ·exact eV
   ·have hk2:k<l.length:=by exact eV
    have e:=hs hk2
    refine⟨⟨k+1,by omega,?_⟩,by simp only;omega,AC [(6,.nm 6)] rfl rfl ?_ ?_⟩
    ·rw[GG l 0 _ hk2,hf,Bool.true_and]
     unfold uF
     rw[Bool.not_eq_true',Bool.or_eq_false_iff,decide_eq_false_iff_not,decide_eq_false_iff_not]
     exact⟨Int.not_lt.2 AA.1,Int.not_lt.2 AA.2⟩
    ·simp only[e]
     first|exact eN|refine eM ?_
     rfl
    ·simp only[e]
     first|exact eN|refine eM ?_
     rw[←e,NK,NK]
   ·have hk2:l.take k=l:=List.take_of_length_le (by exact eV)
    rw[hk2]at hf ⊢
    have h1:p3 l=(A7 (kN l),0):=by unfold p3;rw[if_pos hf]
    have hlen2:=NK l
    refine HQ [6] ?_
    repeat'(first|exact trivial|refine eS rfl ?_|refine AB ?_|refine rX [0,2,3,4,5,10,24] hc ?_ ?_|refine rC ?_ ?_<;>intro AA<;>try(cases AA;done))
    ·rw[hlen2];decide
    ·exact AG hc [.tmp 2,.tmp 3] rfl (.inl rfl) (by simp) (by rw[h1];first|exact eR|refine Av ?_)
end
/- Functions of grammarlabref04: in, Subsumes. -/
section
attribute [local go_sem] NG IX
def Y2 (l:List (List Int)) (b:List Int):Bool:=l.any fun x=>HE x b
def uG:Ah:={ ins:=[QC,EC],pre:=fun _=>True,out:=fun(l,b,_)=>[.p .bool (Y2 l b)],lend:=true }
theorem xK:Ao Tryz.prog 133 uG:=by
 refine AW Tryz.func133 (by kernel_rfl) rfl Tryz.ntmps133 (by decide) (by kernel_rfl) (AF [(125,NG)]) (AD fB AI) ?_
 rintro w0 O0 ⟨l,n,u⟩ hc ⟨⟨hl,-⟩,-⟩ -
 simp only[AO]at hl
 simp only[uG,AM]
 repeat'(first|exact trivial|refine eS rfl ?_|refine AB ?_|refine rX [0,1,4,5,9,17] hc ?_ ?_|refine rC ?_ ?_<;>intro AA<;>try(cases AA;done))
 refine AJ (ι:={k:Nat//k≤l.length∧(l.take k).any (fun x=>HE x n)=false}) (fun k=>⟨[(0,.p QC l),(1,.p EC n),(5,.p (.int .i64) (k.1:Int))],[]⟩) (fun k=>l.length-k.1) ⟨0,by simp⟩ (AC [] rfl rfl ?_ ?_) (fun k=>?_)
 ·first|exact eN|refine eM ?_
 ·first|exact eN|refine eM ?_
 ·obtain⟨k,hk,hany⟩:=k
  repeat'(first|exact trivial|refine eS rfl ?_|refine AB ?_|refine rX [0,1,4,5,9,17] hc ?_ ?_|refine rC ?_ ?_<;>intro AA<;>try(cases AA;done))
  ·exact eV
  ·have hkl:k<l.length:=by exact eV
   have h1:Y2 l n=true:=Ga l [] _ hkl AA
   exact AG hc [.tmp 4] rfl (.inl rfl) (by simp) (by rw[h1];first|exact eR|refine Av ?_)
  ·exact eV
  ·have hkl:k<l.length:=by exact eV
   refine⟨⟨k+1,by exact eV,?_⟩,by simp only;exact eV,AC [] rfl rfl ?_ ?_⟩
   ·rw[LQ l [] _ hkl,hany];exact AA
   ·first|exact eN|refine eM ?_
   ·first|exact eN|refine eM ?_
  ·have hk:l.take k=l:=List.take_of_length_le (by exact eV)
   rw[hk]at hany
   have h1:Y2 l n=false:=hany
   exact AG hc [.tmp 4] rfl (.inl rfl) (by simp) (by rw[h1];first|exact eR|refine Av ?_)
abbrev AP:=ByteArray×List Int
abbrev c0:AP:=(ByteArray.empty,[])
def KI (l:List AP) (i j:Int):Bool:=EZ (l.getD j.toNat c0).2 (l.getD i.toNat c0).2
def Tq:Ah:={ ins:=[JF,T3,T3],pre:=fun(l,i,j,_)=>((0:Int)≤i∧i<(List.length l:Int))∧((0:Int)≤j∧j<(List.length l:Int))∧(∀x∈(l:List AP),x.2.length≤100000),out:=fun(l,i,j,_)=>[.p .bool (KI l i j)],lend:=true }
theorem fE:Ao Tryz.prog 103 Tq:=by
 refine AW Tryz.func103 (by kernel_rfl) rfl Tryz.ntmps103 (by decide) (by kernel_rfl) (AF [(71,IX)]) (AD OT AI) ?_
 rintro w0 O0 ⟨l,i,j,u⟩ hc-⟨hi,hj,hx⟩
 simp only[Tq,AM]
 repeat'(first|exact trivial|refine eS rfl ?_|refine AB ?_|refine rX [0,1,2,6] hc ?_ ?_|refine rC ?_ ?_<;>intro AA<;>try(cases AA;done))
 ·exact⟨hj,hi,hx _ (AE (l:List AP) c0 (by exact eV))⟩
 ·exact AG hc [.tmp 6] rfl (.inl rfl) (by simp) (by unfold KI;first|exact eR|refine Av ?_)
end
/- Functions of grammarlabref05: number. -/
section
attribute [local go_sem] NG
def OW (s:ByteArray):Nat→List AP→Int
 | _,[]=>-1
 | k,x :: l=>if Am x.1 s=true then (k:Int) else OW s (k+1) l
def Bc (l:List AP) (s:ByteArray):Int:=OW s 0 l
theorem Tr (s:ByteArray) (l:List AP) {k:Nat} (h:k<l.length):OW s k (l.drop k)=if Am (l.getD k c0).1 s=true then (k:Int) else OW s (k+1) (l.drop (k+1)):=by
 rw[List.drop_eq_getElem_cons h]
 have e:l.getD k c0=l[k]:=by simp[List.getD_eq_getElem?_getD,h]
 rw[e]
 rfl
def LT:Ah:={ ins:=[JF,T9],pre:=fun _=>True,out:=fun(l,s,_)=>[.p T3 (Bc l s)],lend:=true }
theorem Ts:Ao Tryz.prog 105 LT:=by
 refine AW Tryz.func105 (by kernel_rfl) rfl Tryz.ntmps105 (by decide) (by kernel_rfl) (AF []) AI ?_
 rintro w0 O0 ⟨l,s,u⟩ hc ⟨⟨hl,-⟩,-⟩ -
 simp only[AO]at hl
 simp only[LT,AM]
 repeat'(first|exact trivial|refine eS rfl ?_|refine AB ?_|refine rX [0,1,4,5,9,18] hc ?_ ?_|refine rC ?_ ?_<;>intro AA<;>try(cases AA;done))
 refine AJ (ι:={k:Nat//k≤l.length∧OW s k (l.drop k)=Bc l s}) (fun k=>⟨[(0,.p JF l),(1,.p T9 s),(5,.p (.int .i64) (k.1:Int))],[]⟩) (fun k=>l.length-k.1) ⟨0,Nat.zero_le _,rfl⟩ (AC [] rfl rfl ?_ ?_) (fun k=>?_)
 ·first|exact eN|refine eM ?_
 ·first|exact eN|refine eM ?_
 ·obtain⟨k,hk,hf⟩:=k
  simp only
  repeat'(first|exact trivial|refine eS rfl ?_|refine AB ?_|refine rX [0,1,4,5,9,18] hc ?_ ?_|refine rC ?_ ?_<;>intro AA<;>try(cases AA;done))
  ·exact AA
  ·have hk2:k<l.length:=by exact eV
   rw[Tr s l hk2,if_pos AA]at hf
   exact AG hc [.tmp 4] rfl (.inl rfl) (by simp) (by rw[←hf];first|exact eR|refine Av ?_)
  ·exact eV
  ·have hk2:k<l.length:=by exact eV
   rw[Tr s l hk2,if_neg (by rw[AA];simp)]at hf
   refine⟨⟨k+1,by omega,hf⟩,by simp only;omega,AC [] rfl rfl ?_ ?_⟩
   ·first|exact eN|refine eM ?_
   ·first|exact eN|refine eM ?_
  ·have hk2:l.drop k=[]:=List.drop_eq_nil_of_le (by exact eV)
   rw[hk2]at hf
   exact AG hc [.tmp 4] rfl (.inl rfl) (by simp) (by rw[←hf];first|exact eR|refine Av ?_;rfl)
end
/- Functions of grammarlabref04: Find. -/
section
attribute [local go_sem] NG Fl
def NL (s:List Int):Nat→List AP→Int
 | _,[]=>-1
 | k,x :: l=>if HE x.2 s=true then (k:Int) else NL s (k+1) l
def Jp (l:List AP) (b:List Int):Int:=NL (A7 b) 0 l
theorem Rr (s:List Int) (l:List AP) {k:Nat} (h:k<l.length):NL s k (l.drop k)=if HE (l.getD k c0).2 s=true then (k:Int) else NL s (k+1) (l.drop (k+1)):=by
 rw[List.drop_eq_getElem_cons h]
 have e:l.getD k c0=l[k]:=by simp[List.getD_eq_getElem?_getD,h]
 rw[e]
 rfl
def VM:Ah:={ ins:=[JF,EC],pre:=fun(_,b,_)=>List.length b≤100000,out:=fun(l,b,_)=>[.p T3 (Jp l b)],lend:=true }
theorem nE:Ao Tryz.prog 96 VM:=by
 refine AW Tryz.func96 (by kernel_rfl) rfl Tryz.ntmps96 (by decide) (by kernel_rfl) (AF [(124,Fl),(125,NG)]) (AD LR (AD fB AI)) ?_
 rintro w0 O0 ⟨l,b,u⟩ hc ⟨⟨hl,-⟩,-⟩ hb
 simp only[AO]at hl
 simp only[VM,AM]
 repeat'(first|exact trivial|refine eS rfl ?_|refine AB ?_|refine rX [0,1,4,5,6,12,21] hc ?_ ?_|refine rC ?_ ?_<;>intro AA<;>try(cases AA;done))
 ·exact hb
 ·have hcg:Jp l b=NL (A7 b) 0 l:=rfl
  rw[hcg]
  generalize A7 b=s at *
  refine AJ (ι:={k:Nat//k≤l.length∧NL s k (l.drop k)=NL s 0 l}) (fun k=>⟨[(0,.p JF l),(5,.p EC s),(6,.p (.int .i64) (k.1:Int))],[]⟩) (fun k=>l.length-k.1) ⟨0,Nat.zero_le _,rfl⟩ (AC [] rfl rfl ?_ ?_) (fun k=>?_)
  ·first|exact eN|refine eM ?_
  ·first|exact eN|refine eM ?_
  ·obtain⟨k,hk,hf⟩:=k
   simp only
   repeat'(first|exact trivial|refine eS rfl ?_|refine AB ?_|refine rX [0,1,4,5,6,12,21] hc ?_ ?_|refine rC ?_ ?_<;>intro AA<;>try(cases AA;done))
   ·exact AA
   ·have hk2:k<l.length:=by exact eV
    rw[Rr s l hk2,if_pos AA]at hf
    exact AG hc [.tmp 4] rfl (.inl rfl) (by simp) (by rw[←hf];first|exact eR|refine Av ?_)
   ·exact eV
   ·have hk2:k<l.length:=by exact eV
    rw[Rr s l hk2,if_neg (by rw[AA];simp)]at hf
    refine⟨⟨k+1,by omega,hf⟩,by simp only;omega,AC [] rfl rfl ?_ ?_⟩
    ·first|exact eN|refine eM ?_
    ·first|exact eN|refine eM ?_
   ·have hk2:l.drop k=[]:=List.drop_eq_nil_of_le (by exact eV)
    rw[hk2]at hf
    exact AG hc [.tmp 4] rfl (.inl rfl) (by simp) (by rw[←hf];first|exact eR|refine Av ?_;rfl)
end
/- Functions of grammarlabref05: value. -/
section
attribute [local go_sem] NG
def Wu (s:ByteArray):List (ByteArray×ByteArray)→ByteArray×Bool
 | []=>(ByteArray.empty,false)
 | x :: l=>if Am x.1 s=true then (x.2,true) else Wu s l
def DH (x:AH) (s:ByteArray):ByteArray×Bool:=Wu s x.2.2
theorem Tt (s:ByteArray) (l:List (ByteArray×ByteArray)) {k:Nat} (h:k<l.length):Wu s (l.drop k)=if Am (l.getD k (ByteArray.empty,ByteArray.empty)).1 s=true then ((l.getD k (ByteArray.empty,ByteArray.empty)).2,true) else Wu s (l.drop (k+1)):=by
 rw[List.drop_eq_getElem_cons h]
 have e:l.getD k (ByteArray.empty,ByteArray.empty)=l[k]:=by simp[List.getD_eq_getElem?_getD,h]
 rw[e]
 rfl
def OX:Ah:={ ins:=[iK,T9],pre:=fun _=>True,out:=fun(x,s,_)=>[.p T9 (DH x s).1,.p .bool (DH x s).2],lend:=true }
theorem Wv:Ao Tryz.prog 123 OX:=by
 refine AW Tryz.func123 (by kernel_rfl) rfl Tryz.ntmps123 (by decide) (by kernel_rfl) (AF []) AI ?_
 rintro w0 O0 ⟨⟨nm,sup,fe⟩,s,u⟩ hc ⟨⟨-,-,hfe,-⟩,-⟩ -
 simp only[AO]at hfe
 simp only[OX,AM]
 repeat'(first|exact trivial|refine eS rfl ?_|refine AB ?_|refine rX [0,1,2,4,5,6,11,21] hc ?_ ?_|refine rC ?_ ?_<;>intro AA<;>try(cases AA;done))
 have hz:({ data:=#[] }:ByteArray).size≤AO:=by decide
 rw[if_pos hz]
 refine AJ (ι:={k:Nat//k≤fe.length∧Wu s (fe.drop k)=DH (nm,sup,fe) s}) (fun k=>⟨[(1,.p T9 s),(2,.bp 2 [] 0),(6,.p (.int .i64) (k.1:Int))],[(2,.box 111 true [.p T9 nm,.p Br sup,.p Wh fe])]⟩) (fun k=>fe.length-k.1) ⟨0,Nat.zero_le _,rfl⟩ (AC [(2,.nm 2)] rfl rfl ?_ ?_) (fun k=>?_)
 ·first|exact eN|refine eM ?_
 ·first|exact eN|refine eM ?_
 ·obtain⟨k,hk,hf⟩:=k
  simp only
  repeat'(first|exact trivial|refine eS rfl ?_|refine AB ?_|refine rX [0,1,2,4,5,6,11,21] hc ?_ ?_|refine rC ?_ ?_<;>intro AA<;>try(cases AA;done))
  ·exact AA
  ·assumption
  ·have hk2:k<fe.length:=by exact eV
   rw[Tt s fe hk2,if_pos AA]at hf
   exact AG hc [.tmp 4,.tmp 5] rfl (.inl rfl) (by simp) (by rw[←hf];first|exact eR|refine Av ?_)
  ·exact eV
  ·have hk2:k<fe.length:=by exact eV
   rw[Tt s fe hk2,if_neg (by rw[AA];simp)]at hf
   refine⟨⟨k+1,by omega,hf⟩,by simp only;omega,AC [(2,.nm 2)] rfl rfl ?_ ?_⟩
   ·first|exact eN|refine eM ?_
   ·first|exact eN|refine eM ?_
  ·have hk2:fe.drop k=[]:=List.drop_eq_nil_of_le (by exact eV)
   rw[hk2]at hf
   rw[if_pos hz]
   exact AG hc [.tmp 4,.tmp 5] rfl (.inl rfl) (by simp) (by rw[←hf];first|exact eR|refine Av ?_;exact⟨rfl,rfl⟩)
end
/- Functions of grammarlabref04: before. -/
section
attribute [local go_sem] VJ
def Fq (a b:AP):Bool:=decide (((Hn b.2).length:Int)<((Hn a.2).length:Int))||((Hn a.2).length:Int)==((Hn b.2).length:Int)&&Gy a.1 b.1
def QZ:Ah:={ ins:=[VF,VF],pre:=fun(a,b,_)=>List.length (a:AP).2≤100000∧List.length (b:AP).2≤100000,out:=fun(a,b,_)=>[.p .bool (Fq a b)],lend:=true }
theorem iZ:Ao Tryz.prog 102 QZ:=by
 refine AW Tryz.func102 (by kernel_rfl) rfl Tryz.ntmps102 (by decide) (by kernel_rfl) (AF [(137,VJ)]) (AD m7 AI) ?_
 rintro w0 O0 ⟨⟨an,ac⟩,⟨bn,bc⟩,u⟩ hc-⟨ha,hb⟩
 simp only[QZ,AM]
 repeat'(first|exact trivial|refine eS rfl ?_|refine AB ?_|refine rX [0,1,2,3,4,5,6] hc ?_ ?_|refine rC ?_ ?_<;>intro AA<;>try(cases AA;done))
 ·exact ha
 ·exact hb
 ·exact AG hc [.tmp 4] rfl (.inl rfl) (by simp) (by unfold Fq;first|exact eR|refine Av ?_)
end
/- Functions of grammarlabref04: code. -/
section
attribute [local go_sem] Rp ED ofS
def MS (low all:List ByteArray) (n:Nat):List Int:=((List.range n).filter fun(i:Nat)=>Aa low (all.getD i ByteArray.empty)).map fun(i:Nat)=>(i:Int)
theorem i3 (low all:List ByteArray) (n:Nat):MS low all (n+1)=MS low all n++if Aa low (all.getD n ByteArray.empty)=true then [(n:Int)] else []:=by
 unfold MS
 rw[List.range_succ,List.filter_append,List.map_append]
 congr 1
 rw[List.filter_cons,List.filter_nil]
 split<;>rfl
theorem nF (low all:List ByteArray) (n:Nat):(MS low all n).length≤n:=by
 unfold MS
 rw[List.length_map]
 exact Nat.le_trans (List.length_filter_le _ _) (by simp)
def HF (d:List AH) (all:List ByteArray) (s:ByteArray):List Int:=(p3 (MS (Di d s) all all.length)).1
def fF:Ah:={ ins:=[Es,Br,T9],pre:=fun(d,l,_,_)=>List.length d≤256∧List.length l≤100000,out:=fun(d,l,s,_)=>[.p EC (HF d l s)] }
theorem uH:Ao Tryz.prog 99 fF:=by
 refine AW Tryz.func99 (by kernel_rfl) rfl Tryz.ntmps99 (by decide) (by kernel_rfl) (AF [(130,Rp),(131,ED),(132,ofS)]) (AD nC (AD Gb (AD A14 AI))) ?_
 rintro w0 O0 ⟨d,l,s,u⟩ hc-⟨hd,hl⟩
 have hl:l.length≤100000:=hl
 have hcf:HF d l s=(p3 (MS (Di d s) l l.length)).1:=rfl
 simp only[fF,AM]
 repeat'(first|exact trivial|refine eS rfl ?_|refine AB ?_|refine rX [0,1,2,6,7,8,9,10,18,26] hc ?_ ?_|refine rC ?_ ?_<;>intro AA<;>try(cases AA;done))
 ·exact hd
 ·rw[hcf]
  generalize Di d s=low at *
  refine AJ (ι:={n:Nat//n≤l.length}) (fun n=>⟨[(0,.p Es d),(1,.p Br l),(2,.p T9 s),(7,.p Br low),(8,.sr 30 T3 0 (MS low l n.1).length),(9,.p (.int .i64) (n.1:Int))],[(30,.arr 3 T3 (MS low l n.1))]⟩) (fun n=>l.length-n.1) ⟨0,Nat.zero_le _⟩ (AC [(30,.nil)] rfl rfl ?_ ?_) (fun n=>?_)
  ·first|exact eN|refine eM ?_
   rfl
  ·first|exact eN|refine eM ?_
   rfl
  ·obtain⟨n,hn⟩:=n
   have hz:=nF low l n
   have hs:=i3 low l n
   simp only
   repeat'(first|exact trivial|refine eS rfl ?_|refine AB ?_|refine rX [0,1,2,6,7,8,9,10,18,26] hc ?_ ?_|refine rC ?_ ?_<;>intro AA<;>try(cases AA;done))
   ·exact AA
   ·rw[AA,if_pos rfl]at hs
    simp only[AO]
    dsimp only[Ty.den]at *
    omega
   ·exact eV
   ·have hn2:n<l.length:=by exact eV
    rw[AA,if_pos rfl]at hs
    refine⟨⟨n+1,by omega⟩,by simp only;omega,AC [(30,.nm 30)] rfl rfl ?_ ?_⟩
    ·simp only[hs]
     first|exact eN|refine eM ?_
    ·simp only[hs]
     first|exact eN|refine eM ?_
   ·exact eV
   ·have hn2:n<l.length:=by exact eV
    rw[AA,if_neg (by simp),List.append_nil]at hs
    refine⟨⟨n+1,by omega⟩,by simp only;omega,AC [(30,.nm 30)] rfl rfl ?_ ?_⟩
    ·simp only[hs]
     first|exact eN|refine eM ?_
    ·simp only[hs]
     first|exact eN|refine eM ?_
   ·have hn2:n=l.length:=by exact eV
    subst hn2
    refine HQ [30] ?_
    repeat'(first|exact trivial|refine eS rfl ?_|refine AB ?_|refine rX [0,1,2,6,7,8,9,10,18,26] hc ?_ ?_|refine rC ?_ ?_<;>intro AA<;>try(cases AA;done))
    exact AG hc [.tmp 6] rfl (.inl rfl) (by simp) (by first|exact eR|refine Av ?_)
end
/- Functions of grammarlabref05: feats. -/
section
attribute [local go_sem] MO
def NM (o:List ByteArray) (f:ByteArray×ByteArray):List ByteArray:=EE o f.1
def OY (o:List ByteArray) (x:AH):List ByteArray:=x.2.2.foldl NM o
def CF (d:List AH):List ByteArray:=d.foldl OY []
theorem Tu (l:List (ByteArray×ByteArray)):∀o:List ByteArray,(l.foldl NM o).length≤o.length+l.length:=by
 induction l with
 | nil=>intro o;simp
 | cons x l ih =>
  intro o
  have h1:=ih (NM o x)
  have h2:(NM o x).length≤o.length+1:=Ks o x.1
  simp only[List.foldl_cons,List.length_cons]
  omega
theorem Y3 {d:List AH} (h:∀x∈d,x.2.2.length≤256):∀(l:List AH),(∀x∈l,x∈d)→∀o:List ByteArray,(l.foldl OY o).length≤o.length+256*l.length:=by
 intro l
 induction l with
 | nil=>intro _ o;simp
 | cons x l ih =>
  intro hl o
  have h1:=ih (fun y hy=>hl y (by simp[hy])) (OY o x)
  have h2:=Tu x.2.2 o
  have h3:=h x (hl x (by simp))
  have h4:(OY o x).length=(x.2.2.foldl NM o).length:=rfl
  simp only[List.foldl_cons,List.length_cons]
  omega
def Kw:Ah:={ ins:=[Es],pre:=fun(d,_)=>List.length d≤256∧(∀x∈(d:List AH),x.2.2.length≤256),out:=fun(d,_)=>[.p Br (CF d)] }
theorem Rs:Ao Tryz.prog 94 Kw:=by
 refine AW Tryz.func94 (by kernel_rfl) rfl Tryz.ntmps94 (by decide) (by kernel_rfl) (AF [(122,MO)]) (AD OP AI) ?_
 rintro w0 O0 ⟨d,u⟩ hc-⟨hd,hx⟩
 have hd:d.length≤256:=hd
 simp only[Kw,AM]
 repeat'(first|exact trivial|refine eS rfl ?_|refine AB ?_|refine rX [0,2,3,4,5,9,19] hc ?_ ?_|refine rC ?_ ?_<;>intro AA<;>try(cases AA;done))
 refine AJ (ι:={i:Nat//i≤d.length}) (fun i=>⟨[(0,.p Es d),(3,.p Br (CF (d.take i.1))),(4,.p (.int .i64) (i.1:Int))],[]⟩) (fun i=>d.length-i.1) ⟨0,Nat.zero_le _⟩ (AC [] rfl rfl ?_ ?_) (fun i=>?_)
 ·first|exact eN|refine eM ?_
 ·first|exact eN|refine eM ?_
  rfl
 ·obtain⟨i,hi⟩:=i
  have hlen:=Y3 hx (d.take i) (fun x h=>List.mem_of_mem_take h) []
  have htl:=List.length_take_le i d
  have hs:=fun h:i<d.length=>Ea OY d d0 [] h
  have hfe:∀e,CF e=e.foldl OY []:=fun _=>rfl
  simp only
  repeat'(first|exact trivial|refine eS rfl ?_|refine AB ?_|refine rX [0,2,3,4,5,9,19] hc ?_ ?_|refine rC ?_ ?_<;>intro AA<;>try(cases AA;done))
  ·have hi2:i<d.length:=by exact eV
   have hxi:=hx _ (AE d d0 hi2)
   have hs:=hs hi2
   rw[←hfe,←hfe]at hs
   rw[←hfe]at hlen
   generalize CF (d.take i)=o at *
   refine AJ (ι:={k:Nat//k≤(d.getD i d0).2.2.length}) (fun k=>⟨[(0,.p Es d),(3,.p Br (((d.getD i d0).2.2.take k.1).foldl NM o)),(4,.p (.int .i64) (i:Int)),(5,.p (.int .i64) (k.1:Int))],[]⟩) (fun k=>(d.getD i d0).2.2.length-k.1) ⟨0,Nat.zero_le _⟩ (AC [] rfl rfl ?_ ?_) (fun k=>?_)
   ·first|exact eN|refine eM ?_
   ·first|exact eN|refine eM ?_
    rfl
   ·obtain⟨k,hk⟩:=k
    have hk':k≤(d.getD i d0).2.2.length:=hk
    have hfl:=Tu ((d.getD i d0).2.2.take k) o
    have hkl:=List.length_take_le k (d.getD i d0).2.2
    have hss:=fun h:k<(d.getD i d0).2.2.length=>Ea NM (d.getD i d0).2.2 (ByteArray.empty,ByteArray.empty) o h
    simp only
    repeat'(first|exact trivial|refine eS rfl ?_|refine AB ?_|refine rX [0,2,3,4,5,9,19] hc ?_ ?_|refine rC ?_ ?_<;>intro AA<;>try(cases AA;done))
    ·assumption
    ·refine⟨by assumption,AA,?_⟩
     simp only[List.length_nil]at hlen
     dsimp only[Ty.den]at *
     omega
    ·have h1:(k:Int)<((d.getD i d0).2.2.length:Int):=AA
     exact eV
    ·have hk2:k<(d.getD i d0).2.2.length:=Int.ofNat_lt.1 AA
     have e:=hss hk2
     refine⟨⟨k+1,hk2⟩,by simp only;omega,AC [] rfl rfl ?_ ?_⟩
     ·first|exact eN|refine eM ?_
     ·simp only[e]
      unfold NM
      first|exact eN|refine eM ?_
    ·have:=hd
     exact eV
    ·have hk2:(d.getD i d0).2.2.take k=(d.getD i d0).2.2:=List.take_of_length_le (Int.ofNat_le.1 AA)
     have e:CF (d.take (i+1))=((d.getD i d0).2.2.take k).foldl NM o:=by rw[hk2];exact hs
     refine⟨⟨i+1,hi2⟩,by simp only;omega,AC [] rfl rfl ?_ ?_⟩
     ·first|exact eN|refine eM ?_
     ·simp only[e]
      first|exact eN|refine eM ?_
  ·have hk2:d.take i=d:=List.take_of_length_le (by exact eV)
   rw[hk2]
   exact AG hc [.tmp 2] rfl (.inl rfl) (by simp) (by first|exact eR|refine Av ?_)
end
/- What a hierarchy that passes grammarlabref03.Check is: all supertypes are declared. -/
section
theorem Tv {d:List AH} {l:List ByteArray}:∀ {r:List ByteArray} {k:Nat},QD d l k r=0→∀s∈r,0≤A9 d s
 | [],_,_,s,hs=>by cases hs
 | x :: r,k,h,s,hs=>by
  simp only[QD]at h
  split at h
  ·cases h
  ·rename_i h1
   split at h
   ·cases h
   ·rcases List.mem_cons.1 hs with rfl|hs
    ·omega
    ·exact Tv h s hs
theorem NN {d:List AH}:∀ {l:List AH},Jk d l=0→∀x∈l,∀s∈x.2.1,0≤A9 d s
 | [],_,x,hx=>by cases hx
 | y :: l,h,x,hx=>by
  simp only[Jk]at h
  split at h
  ·rename_i h1;exact absurd h h1
  ·rename_i h1
   rcases List.mem_cons.1 hx with rfl|hx
   ·exact Tv (Classical.byContradiction h1)
   ·exact NN h x hx
theorem nG {d:List AH} (h:Jl d=0):Rm d:=NN h
theorem A3 {d:List AH} (h:BG d=0):Rm d∧d.length≤256∧Hs d=1∧Dg d=0∧d.length≤(Bb d).length:=by
 unfold BG at h
 split at h
 ·rename_i h1;exact absurd h h1
 ·rename_i h1
  split at h
  ·rename_i h2;exact absurd h h2
  ·rename_i h2
   split at h
   ·rename_i h3;exact absurd h h3
   ·rename_i h3
    split at h
    ·cases h
    ·rename_i h4
     split at h
     ·cases h
     ·rename_i h5
      exact⟨nG (Classical.byContradiction h3),Pa (Classical.byContradiction h1),Classical.byContradiction h4,Classical.byContradiction h2,by omega⟩
end
/- Functions of grammarlabref04: family. -/
section
attribute [local go_sem] uG Yy
def Gu (l:List (List Int)) (i k:Nat):List (List Int) :=
 if (decide (0<((EY (l.getD i []) (l.getD k [])).length:Int))&&!Y2 l (EY (l.getD i []) (l.getD k [])))=true then l++[EY (l.getD i []) (l.getD k [])] else l
def Gv (i:Nat):Nat→Nat→List (List Int)→List (List Int)
 | 0,_,l=>l
 | n+1,k,l=>if l.length≤256 then Gv i n (k+1) (Gu l i k) else l
def Ip:Nat→Nat→List (List Int)→List (List Int)
 | 0,_,l=>l
 | n+1,i,l=>if i<l.length∧l.length≤256 then Ip n (i+1) (Gv i i 0 l) else l
def A0 (c:List (List Int)):List (List Int):=Ip 257 0 c
theorem Ww (a b:List Int):(EY a b).length≤a.length:=by
 unfold EY A7
 have:=EP .and a b a.length
 rw[List.length_take]
 omega
structure wB (l:List (List Int)):Prop where
 len:l.length≤257
 wid:∀c∈l,c.length≤64
theorem Kx {l:List (List Int)} (h:∀c∈l,c.length≤64) (k:Nat):(l.getD k []).length≤64:=by
 rw[List.getD_eq_getElem?_getD]
 cases hh:l[k]? with
 | none=>simp
 | some x=>exact h x (List.mem_of_getElem? hh)
theorem Wx {l:List (List Int)} (h:∀c∈l,c.length≤64) (i k:Nat):∀c∈Gu l i k,c.length≤64:=by
 unfold Gu
 split
 ·intro c hc
  rcases List.mem_append.1 hc with hc|hc
  ·exact h c hc
  ·have:c=EY (l.getD i []) (l.getD k []):=by simpa using hc
   rw[this]
   exact Nat.le_trans (Ww _ _) (Kx h i)
 ·exact h
theorem nH (l:List (List Int)) (i k:Nat):l.length≤(Gu l i k).length∧(Gu l i k).length≤l.length+1:=by
 unfold Gu
 split
 ·simp
 ·exact⟨Nat.le_refl _,Nat.le_succ _⟩
def Qa:Ah:={ ins:=[QC],pre:=fun(c,_)=>List.length c≤256∧∀x∈(c:List (List Int)),x.length≤64,out:=fun(c,_)=>[.p QC (A0 c)] }
theorem i4:Ao Tryz.prog 100 Qa:=by
 refine AW Tryz.func100 (by kernel_rfl) rfl Tryz.ntmps100 (by decide) (by kernel_rfl) (AF [(112,Yy),(133,uG)]) (AD m5 (AD xK AI)) ?_
 rintro w0 O0 ⟨c,u⟩ hc-⟨hcl,hcw⟩
 have hcl:c.length≤256:=hcl
 simp only[Qa,AM]
 repeat'(first|exact trivial|refine eS rfl ?_|refine AB ?_|refine rX [0,2,3,4,5,6,18,28,48] hc ?_ ?_|refine rC ?_ ?_<;>intro AA<;>try(cases AA;done))
 ·simp only[AO];dsimp only[Ty.den]at *;omega
 ·refine AJ (ι:={x:Nat×List (List Int)//x.1≤256∧wB x.2∧Ip (257-x.1) x.1 x.2=A0 c}) (fun x=>⟨[(3,.sr 7 EC 0 x.1.2.length),(4,.p (.int .i64) (x.1.1:Int))],[(7,.arr 81 EC x.1.2)]⟩) (fun x=>257-x.1.1) ⟨(0,c),by simp,⟨by simp only;omega,hcw⟩,rfl⟩ (AC [(7,.nm 7)] rfl rfl ?_ ?_) (fun x=>?_)
  ·first|exact eN|refine eM ?_
  ·first|exact eN|refine eM ?_
  ·obtain⟨⟨i,l⟩,hi,⟨hll,hlw⟩,hg⟩:=x
   simp only at hi hll hlw hg
   simp only
   repeat'(first|exact trivial|refine eS rfl ?_|refine AB ?_|refine rX [0,2,3,4,5,6,18,28,48] hc ?_ ?_|refine rC ?_ ?_<;>intro AA<;>try(cases AA;done))
   ·have hi2:i<l.length:=by omega
    have hl2:l.length≤256:=by omega
    have hg2:Ip (256-i) (i+1) (Gv i i 0 l)=A0 c:=by
     have e:257-i=(256-i)+1:=by omega
     rw[←hg,e]
     show _=if i<l.length∧l.length≤256 then Ip (256-i) (i+1) (Gv i i 0 l) else l
     rw[if_pos ⟨hi2,hl2⟩]
    refine AJ (ι:={y:Nat×List (List Int)//y.1≤i∧wB y.2∧l.length≤y.2.length∧Gv i (i-y.1) y.1 y.2=Gv i i 0 l}) (fun y=>⟨[(3,.sr 7 EC 0 y.1.2.length),(4,.p (.int .i64) (i:Int)),(5,.p (.int .i64) (y.1.1:Int))],[(7,.arr 81 EC y.1.2)]⟩) (fun y=>i-y.1.1) ⟨(0,l),by simp,⟨hll,hlw⟩,Nat.le_refl _,rfl⟩ (AC [(7,.nm 7)] rfl rfl ?_ ?_) (fun y=>?_)
    ·first|exact eN|refine eM ?_
    ·first|exact eN|refine eM ?_
    ·obtain⟨⟨k,m⟩,hk,⟨hml,hmw⟩,hlm,hf⟩:=y
     simp only at hk hml hmw hlm hf
     simp only
     repeat'(first|exact trivial|refine eS rfl ?_|refine AB ?_|refine rX [0,2,3,4,5,6,18,28,48] hc ?_ ?_|refine rC ?_ ?_<;>intro AA<;>try(cases AA;done))
     ·exact⟨by exact eV,by exact eV,Nat.le_trans (Kx hmw i) (by decide)⟩
     ·simp only[AO];omega
     ·omega
     ·have e:Gu m i k=m++[EY (m.getD i []) (m.getD k [])]:=by
       unfold Gu
       rw[if_pos]
       rw[Bool.and_eq_true,decide_eq_true_eq,Bool.not_eq_true']
       exact AA
      have hw:=Wx hmw i k
      have h2:=nH m i k
      refine⟨⟨(k+1,Gu m i k),by simp only;omega,⟨by simp only;omega,hw⟩,by simp only;omega,?_⟩,by simp only;omega,AC [(7,.nm 7)] rfl rfl ?_ ?_⟩
      ·simp only
       rw[←hf,show i-k=(i-(k+1))+1 by omega]
       show _=if m.length≤256 then Gv i (i-(k+1)) (k+1) (Gu m i k) else m
       rw[if_pos (by omega)]
      ·simp only[e]
       first|exact eN|refine eM ?_
      ·simp only[e]
       first|exact eN|refine eM ?_
     ·omega
     ·have e:Gu m i k=m:=by
       unfold Gu
       rw[if_neg]
       rw[Bool.and_eq_true,decide_eq_true_eq,Bool.not_eq_true']
       intro h
       rw[AA h.1]at h
       exact absurd h.2 (by simp)
      refine⟨⟨(k+1,m),by simp only;omega,⟨hml,hmw⟩,hlm,?_⟩,by simp only;omega,AC [(7,.nm 7)] rfl rfl ?_ ?_⟩
      ·simp only
       rw[←hf,show i-k=(i-(k+1))+1 by omega]
       show _=if m.length≤256 then Gv i (i-(k+1)) (k+1) (Gu m i k) else m
       rw[if_pos (by omega),e]
      ·first|exact eN|refine eM ?_
      ·first|exact eN|refine eM ?_
     ·omega
     ·have hm2:m=Gv i i 0 l:=by
       rw[←hf]
       cases hm:i-k with
       | zero=>rfl
       | succ j =>
        show _=if m.length≤256 then _ else m
        rw[if_neg (by omega)]
      rw[←hm2]at hg2
      refine⟨⟨(i+1,m),by simp only;omega,⟨hml,hmw⟩,?_⟩,by simp only;omega,AC [(7,.nm 7)] rfl rfl ?_ ?_⟩
      ·simp only
       rw[show 257-(i+1)=256-i by omega]
       exact hg2
      ·first|exact eN|refine eM ?_
      ·first|exact eN|refine eM ?_
   ·have hgl:l=A0 c:=by
     rw[←hg]
     cases hm:257-i with
     | zero=>rfl
     | succ m =>
      show _=if i<l.length∧l.length≤256 then _ else l
      rw[if_neg (by omega)]
    rw[←hgl]
    refine HQ [7] ?_
    exact AG hc [.tmp 2] rfl (.inl rfl) (by simp) (by first|exact eR|refine Av ?_)
theorem cs0 {α:Type} (x y:α):(if ({ data:=#[] }:ByteArray).size≤AO then x else y)=x:=if_pos (by show 0≤AO;decide)
theorem cs1 {α:Type} (a:UInt8) (x y:α):(if ({ data:=#[a] }:ByteArray).size≤AO then x else y)=x:=if_pos (by show 1≤AO;decide)
theorem cs2 {α:Type} (a b:UInt8) (x y:α):(if ({ data:=#[a,b] }:ByteArray).size≤AO then x else y)=x:=if_pos (by show 2≤AO;decide)
theorem cs3 {α:Type} (a b c:UInt8) (x y:α):(if ({ data:=#[a,b,c] }:ByteArray).size≤AO then x else y)=x:=if_pos (by show 3≤AO;decide)
theorem cs4 {α:Type} (a b c d:UInt8) (x y:α):(if ({ data:=#[a,b,c,d] }:ByteArray).size≤AO then x else y)=x:=if_pos (by show 4≤AO;decide)
theorem cs5 {α:Type} (a b c d e:UInt8) (x y:α):(if ({ data:=#[a,b,c,d,e] }:ByteArray).size≤AO then x else y)=x:=if_pos (by show 5≤AO;decide)
theorem cs6 {α:Type} (a b c d e f:UInt8) (x y:α):(if ({ data:=#[a,b,c,d,e,f] }:ByteArray).size≤AO then x else y)=x:=if_pos (by show 6≤AO;decide)
theorem cs7 {α:Type} (a b c d e f g:UInt8) (x y:α):(if ({ data:=#[a,b,c,d,e,f,g] }:ByteArray).size≤AO then x else y)=x:=if_pos (by show 7≤AO;decide)
theorem cs8 {α:Type} (a b c d e f g h:UInt8) (x y:α):(if ({ data:=#[a,b,c,d,e,f,g,h] }:ByteArray).size≤AO then x else y)=x:=if_pos (by show 8≤AO;decide)
end
/- Plain: the bits of the codes. -/
section
def BA (b:List Int) (i:Nat):Bool:=(b.getD (i / 64) 0).toNat.testBit (i % 64)
def nI (x:Int):Prop:=0≤x∧x<18446744073709551616
theorem FD {x:Int} (h:nI x):(BitVec.ofInt 64 x).toNat=x.toNat:=by
 rw[BitVec.toNat_ofInt]
 have h1:=h.1
 have h2:=h.2
 rw[Int.emod_eq_of_lt h1 (by simpa using h2)]
theorem NP {n:Nat} (h:n<18446744073709551616):IntKind.u64.wrap (n:Int)=n:=JW (by rw[Fc];omega)
theorem uI {x y:Int} (hx:nI x) (hy:nI y):Bt .or .u64 x y=((x.toNat ||| y.toNat:Nat):Int):=by
 have h1:(BitVec.ofInt IntKind.u64.bits x ||| BitVec.ofInt IntKind.u64.bits y).toNat=x.toNat ||| y.toNat:=by
  rw[BitVec.toNat_or]
  show (BitVec.ofInt 64 x).toNat ||| (BitVec.ofInt 64 y).toNat=_
  rw[FD hx,FD hy]
 unfold Bt
 simp only
 rw[h1]
 have e:(18446744073709551616:Nat)=2 ^ 64:=by decide
 refine NP ?_
 rw[e]
 refine Nat.or_lt_two_pow ?_ ?_
 ·have:=hx.2;have:=hx.1;omega
 ·have:=hy.2;have:=hy.1;omega
theorem Hu {x y:Int} (hx:nI x) (hy:nI y):Bt .and .u64 x y=((x.toNat &&& y.toNat:Nat):Int):=by
 have h1:(BitVec.ofInt IntKind.u64.bits x &&& BitVec.ofInt IntKind.u64.bits y).toNat=x.toNat &&& y.toNat:=by
  rw[BitVec.toNat_and]
  show (BitVec.ofInt 64 x).toNat &&& (BitVec.ofInt 64 y).toNat=_
  rw[FD hx,FD hy]
 unfold Bt
 simp only
 rw[h1]
 refine NP (Nat.lt_of_le_of_lt Nat.and_le_left ?_)
 have:=hx.2;have:=hx.1;omega
theorem OZ {x y:Int}:Bt .andNot .u64 x y=((BitVec.ofInt 64 x &&& ~~~BitVec.ofInt 64 y).toNat:Int):=by
 show IntKind.u64.wrap ((BitVec.ofInt 64 x &&& ~~~BitVec.ofInt 64 y).toNat:Int)=_
 exact NP (BitVec.isLt _)
theorem Pb {x y:Int} (hx:nI x) (hy:nI y) (h:Bt .andNot .u64 x y=0) {r:Nat} (hr:r<64) (hb:x.toNat.testBit r=true):y.toNat.testBit r=true:=by
 rw[OZ]at h
 have h1:(BitVec.ofInt 64 x &&& ~~~BitVec.ofInt 64 y).toNat=0:=by omega
 have h2:(BitVec.ofInt 64 x &&& ~~~BitVec.ofInt 64 y).toNat.testBit r=false:=by rw[h1];exact Nat.zero_testBit r
 rw[BitVec.testBit_toNat,BitVec.getLsbD_and,BitVec.getLsbD_not,←BitVec.testBit_toNat,←BitVec.testBit_toNat,FD hx,FD hy,hb]at h2
 simpa[hr] using h2
theorem Wy {x:Int}:Bt .andNot .u64 x x=0:=by
 rw[OZ]
 simp
theorem MT {b:List Int}:∀ {n:Nat},∀k,CS b n≤k→k<n→b.getD k 0=0
 | 0,k,_,h=>by omega
 | n+1,k,h1,h2=>by
  unfold CS at h1
  split at h1
  ·rename_i hz
   by_cases hk:k=n
   ·rw[hk];exact hz
   ·exact MT k h1 (by omega)
  ·omega
theorem NQ (b:List Int) (k:Nat):(A7 b).getD k 0=b.getD k 0:=by
 unfold A7
 by_cases h:k<CS b b.length
 ·simp[List.getD_eq_getElem?_getD,List.getElem?_take,h]
 ·have h1:(List.take (CS b b.length) b).getD k 0=0:=by
   rw[List.getD_eq_getElem?_getD,List.getElem?_take,if_neg h];rfl
  rw[h1]
  by_cases h2:k<b.length
  ·exact(MT k (by omega) h2).symm
  ·rw[List.getD_eq_getElem?_getD,List.getElem?_eq_none (by omega)];rfl
theorem MU (b:List Int) (i:Nat):BA (A7 b) i=BA b i:=by unfold BA;rw[NQ]
def H7 (b:List Int):Prop:=∀x∈b,nI x
theorem A4 {b:List Int} (h:H7 b) (k:Nat):nI (b.getD k 0):=by
 rw[List.getD_eq_getElem?_getD]
 cases hh:b[k]? with
 | none=>exact⟨by simp,by simp⟩
 | some x=>exact h x (List.mem_of_getElem? hh)
theorem MV {b:List Int} (h:H7 b):H7 (A7 b):=fun x hx=>h x (List.mem_of_mem_take hx)
theorem JH (b:List Int) (k:Nat):F1 b (k:Int)=b.getD k 0:=by
 unfold F1
 split
 ·simp
 ·rename_i h
  rw[List.getD_eq_getElem?_getD,List.getElem?_eq_none (by omega)];rfl
theorem LU (op:BinOp) (a b:List Int) {n k:Nat} (h:k<n):(GF op a b n).getD k 0=Bt op .u64 (a.getD k 0) (b.getD k 0):=by
 unfold GF
 rw[List.getD_eq_getElem?_getD,List.getElem?_map,List.getElem?_range h]
 show Bt op .u64 (a.getD k 0) (F1 b (k:Int))=_
 rw[JH]
theorem VN {a b:List Int} (h:EZ a b=true) {k:Nat} (hk:k<a.length):Bt .andNot .u64 (a.getD k 0) (b.getD k 0)=0:=by
 unfold EZ OQ A7 at h
 have h1:(List.take (CS (GF .andNot a b a.length) (GF .andNot a b a.length).length) (GF .andNot a b a.length)).length=0:=by
  have:=beq_iff_eq.1 h
  omega
 rw[List.length_take,EP]at h1
 have h2:=Rh (GF .andNot a b a.length) a.length
 have h3:=MT (b:=GF .andNot a b a.length) (n:=a.length) k (by omega) hk
 rw[LU _ _ _ hk]at h3
 exact h3
theorem Ky {a b:List Int} (ha:H7 a) (hb:H7 b) (h:EZ a b=true) {i:Nat} (hi:BA a i=true):BA b i=true:=by
 by_cases hk:i / 64<a.length
 ·exact Pb (A4 ha _) (A4 hb _) (VN h hk) (Nat.mod_lt _ (by decide)) hi
 ·exfalso
  unfold BA at hi
  rw[List.getD_eq_getElem?_getD,List.getElem?_eq_none (by omega)]at hi
  simp at hi
theorem Oa {b:List Int}:∀ {n:Nat},(∀k,k<n→b.getD k 0=0)→CS b n=0
 | 0,_=>rfl
 | n+1,h=>by
  unfold CS
  rw[if_pos (h n (by omega))]
  exact Oa fun k hk=>h k (by omega)
theorem Wz (a:List Int):EZ a a=true:=by
 unfold EZ OQ A7
 have h1:CS (GF .andNot a a a.length) (GF .andNot a a a.length).length=0:=by
  rw[EP]
  exact Oa fun k hk=>by rw[LU _ _ _ hk];exact Wy
 rw[h1]
 rfl
theorem W6 (a:List Int):Fm a a=true:=by unfold Fm;rw[Wz];rfl
theorem uJ {b:List Int} (hb:H7 b) (hl:b.length=64) {x:Int} (h0:0≤x) (h1:x≤4095) (i:Nat):BA (iY b x) i=(BA b i||decide (x=(i:Int))):=by
 have e1:Int.tdiv x 64=x / 64:=Int.tdiv_eq_ediv_of_nonneg h0
 have e2:Int.tmod x 64=x % 64:=Int.tmod_eq_emod_of_nonneg h0
 obtain⟨n,rfl⟩:∃n:Nat,x=(n:Int):=⟨x.toNat,by omega⟩
 have hs:Pt .u64 1 ((n:Int) % 64)=((2 ^ (n % 64):Nat):Int):=by
  unfold Pt
  have e3:min ((n:Int) % 64).toNat IntKind.u64.bits=n % 64:=by
   have:((n:Int) % 64).toNat=n % 64:=by omega
   rw[this]
   have:IntKind.u64.bits=64:=rfl
   omega
  rw[e3,Int.one_mul]
  have:(2:Int) ^ (n % 64)=((2 ^ (n % 64):Nat):Int):=by simp
  rw[this]
  refine NP ?_
  have h3:(2:Nat) ^ (n % 64)<2 ^ 64:=Nat.pow_lt_pow_right (by decide) (Nat.mod_lt _ (by decide))
  exact h3
 have hu:nI (Pt .u64 1 ((n:Int) % 64)):=by
  rw[hs]
  have h3:(2:Nat) ^ (n % 64)<2 ^ 64:=Nat.pow_lt_pow_right (by decide) (Nat.mod_lt _ (by decide))
  have h4:(2:Nat) ^ 64=18446744073709551616:=by decide
  refine⟨Int.natCast_nonneg _,?_⟩
  rw[h4]at h3
  exact Int.ofNat_lt.2 h3
 have hn:((n:Int) / 64).toNat=n / 64:=by omega
 unfold iY BA
 rw[e1,e2,hn]
 by_cases hd:i / 64=n / 64
 ·have hlt:n / 64<b.length:=by omega
  rw[hd]
  have:(b.set (n / 64) (Bt .or .u64 (b.getD (n / 64) 0) (Pt .u64 1 ((n:Int) % 64)))).getD (n / 64) 0=Bt .or .u64 (b.getD (n / 64) 0) (Pt .u64 1 ((n:Int) % 64)):=by
   simp[List.getD_eq_getElem?_getD,hlt]
  rw[this,uI (A4 hb _) hu,hs]
  simp only[Int.toNat_natCast,Nat.testBit_or,Nat.testBit_two_pow]
  congr 1
  rw[decide_eq_decide]
  omega
 ·have:(b.set (n / 64) (Bt .or .u64 (b.getD (n / 64) 0) (Pt .u64 1 ((n:Int) % 64)))).getD (i / 64) 0=b.getD (i / 64) 0:=by
   simp[List.getD_eq_getElem?_getD,List.getElem?_set,Ne.symm hd]
  rw[this]
  have:decide ((n:Int)=(i:Int))=false:=by
   rw[decide_eq_false_iff_not]
   intro h
   exact hd (by omega)
  rw[this,Bool.or_false]
theorem uK {b:List Int} (hb:H7 b) (x:Int):H7 (iY b x):=by
 intro y hy
 unfold iY at hy
 rcases List.mem_or_eq_of_mem_set hy with h|h
 ·exact hb y h
 ·rw[h]
  have:=LI .u64 ((BitVec.ofInt IntKind.u64.bits (b.getD (x.tdiv 64).toNat 0) ||| BitVec.ofInt IntKind.u64.bits (Pt .u64 1 (x.tmod 64))).toNat:Int)
  rw[Fc]at this
  exact⟨this.1,by have:=this.2;show _<_;exact Int.lt_of_le_of_lt this (by decide)⟩
theorem uL {l:List Int} (h:l.all uF=true) (i:Nat):BA (kN l) i=decide ((i:Int)∈l)∧H7 (kN l):=by
 have key:∀(l b:List Int),l.all uF=true→H7 b→b.length=64→BA (l.foldl iY b) i=(BA b i||decide ((i:Int)∈l))∧H7 (l.foldl iY b):=by
  intro l
  induction l with
  | nil=>intro b _ hb _;simp[hb]
  | cons x l ih =>
   intro b ho hb hl
   rw[List.all_cons,Bool.and_eq_true]at ho
   have hx:=ho.1
   unfold uF at hx
   rw[Bool.not_eq_true',Bool.or_eq_false_iff,decide_eq_false_iff_not,decide_eq_false_iff_not]at hx
   obtain⟨g1,g2⟩:=ih (iY b x) ho.2 (uK hb x) (by simp[iY,hl])
   rw[List.foldl_cons]
   refine⟨?_,g2⟩
   rw[g1,uJ hb hl (by omega) (by omega),Bool.or_assoc]
   congr 1
   rw[←Bool.decide_or,decide_eq_decide,List.mem_cons,eq_comm]
 have h2:H7 (List.replicate 64 (0:Int)):=by
  intro y hy
  rw[(List.mem_replicate.1 hy).2]
  exact⟨by decide,by decide⟩
 have h1:=key l (List.replicate 64 0) h h2 (by simp)
 refine⟨?_,h1.2⟩
 unfold kN
 rw[h1.1]
 have:BA (List.replicate 64 (0:Int)) i=false:=by
  unfold BA
  have:(List.replicate 64 (0:Int)).getD (i / 64) 0=0:=by
   rw[List.getD_eq_getElem?_getD,List.getElem?_replicate]
   split<;>rfl
  rw[this]
  simp
 rw[this,Bool.false_or]
theorem nJ {low all:List ByteArray} {n i:Nat}:((i:Int)∈MS low all n)↔i<n∧Aa low (all.getD i ByteArray.empty)=true:=by
 unfold MS
 rw[List.mem_map]
 constructor
 ·rintro⟨j,hj,e⟩
  have:j=i:=by omega
  subst this
  rw[List.mem_filter,List.mem_range]at hj
  exact hj
 ·rintro⟨h1,h2⟩
  exact⟨i,by rw[List.mem_filter,List.mem_range];exact⟨h1,h2⟩,rfl⟩
theorem uM {low all:List ByteArray} {n:Nat} (hn:n≤4096):(MS low all n).all uF=true:=by
 rw[List.all_eq_true]
 intro x hx
 unfold MS at hx
 obtain⟨j,hj,rfl⟩:=List.mem_map.1 hx
 rw[List.mem_filter,List.mem_range]at hj
 unfold uF
 rw[Bool.not_eq_true',Bool.or_eq_false_iff,decide_eq_false_iff_not,decide_eq_false_iff_not]
 exact⟨by omega,by omega⟩
theorem ER {d:List AH} {all:List ByteArray} (hl:all.length≤4096) (s:ByteArray) (i:Nat):(BA (HF d all s) i=true↔i<all.length∧Aa (Di d s) (all.getD i ByteArray.empty)=true)∧H7 (HF d all s)∧(HF d all s).length≤64:=by
 have h1:=uM (low:=Di d s) (all:=all) hl
 have h2:=uL h1 i
 have h3:HF d all s=A7 (kN (MS (Di d s) all all.length)):=by
  unfold HF p3
  rw[if_pos h1]
 refine⟨?_,?_,?_⟩
 ·rw[h3,MU,h2.1,decide_eq_true_eq,nJ]
 ·rw[h3];exact MV h2.2
 ·rw[h3]
  unfold A7
  have:=NK (MS (Di d s) all all.length)
  rw[List.length_take]
  omega
end
/- Plain: what is placed stands in order; what is below comes behind. -/
section
theorem Pc (d:List AH) {s t:ByteArray} (h:Am s t=true):A9 d s=A9 d t:=by
 have key:∀(l:List AH) (k:Nat),Ce s k l=Ce t k l:=by
  intro l
  induction l with
  | nil=>intro k;rfl
  | cons x l ih =>
   intro k
   simp only[Ce]
   have:Am x.1 s=Am x.1 t:=by
    cases h1:Am x.1 s with
    | true=>exact(CE h1 h).symm
    | false =>
     cases h2:Am x.1 t with
     | false=>rfl
     | true=>rw[CE h2 (Ey h)]at h1;cases h1
   rw[this,ih]
 exact key d 0
theorem DA {α:Type} {l:List α} {d:α} {k:Nat} (h:k<l.length):l.getD k d∈l:=by
 rw[List.getD_eq_getElem?_getD,List.getElem?_eq_getElem h]
 exact List.getElem_mem h
theorem Ek {α:Type} {l:List α} (d:α) {x:α} (h:x∈l):∃k,k<l.length∧l.getD k d=x:=by
 obtain⟨k,hk,e⟩:=List.mem_iff_getElem.1 h
 exact⟨k,hk,by rw[List.getD_eq_getElem?_getD,List.getElem?_eq_getElem hk];exact e⟩
theorem Kz {d:List AH}:∀ {r:List AH} {k:Nat},MP d k r=0→∀j,j<r.length→¬A9 d (r.getD j d0).1<((k+j:Nat):Int)∧Ed (r.getD j d0).1 false=true
 | [],_,_,j,hj=>by simp at hj
 | x :: r,k,h,j,hj=>by
  simp only[MP]at h
  split at h
  ·cases h
  ·rename_i h1
   split at h
   ·cases h
   ·rename_i h2
    cases j with
    | zero=>exact⟨h2,by simpa using h1⟩
    | succ j =>
     have:=Kz h j (by simpa using hj)
     have e:k+(j+1)=k+1+j:=by omega
     rw[e]
     exact this
theorem NR (s:ByteArray):∀(l:List AH) (k j:Nat),j<l.length→Am (l.getD j d0).1 s=true→Ce s k l≤((k+j:Nat):Int)
 | [],_,j,h,_=>by simp at h
 | x :: l,k,j,h,e=>by
  simp only[Ce]
  split
  ·omega
  ·rename_i h1
   cases j with
   | zero=>exact absurd e h1
   | succ j =>
    have:=NR s l (k+1) j (by simpa using h) e
    omega
theorem NS {d:List AH} (h:Dg d=0) {j:Nat} (hj:j<d.length):A9 d (d.getD j d0).1=(j:Int):=by
 have h1:=(Kz h j hj).1
 have h2:=NR (d.getD j d0).1 d 0 j hj (Ex _)
 rw[Nat.zero_add]at h1 h2
 have h2:A9 d (d.getD j d0).1≤(j:Int):=h2
 omega
theorem W7 {d:List AH} (h:Dg d=0) {x y:AH} (hx:x∈d) (hy:y∈d) (e:Am x.1 y.1=true):x=y:=by
 obtain⟨i,hi,rfl⟩:=Ek d0 hx
 obtain⟨j,hj,rfl⟩:=Ek d0 hy
 have h1:=NS h hi
 have h2:=NS h hj
 rw[Pc d e,h2]at h1
 have:i=j:=by omega
 rw[this]
theorem Y4 (d:List AH) (out:List ByteArray) (h:(Hq d out).1=true):∃x∈d,x.1=(Hq d out).2∧Aa out x.1=false∧Ho x out=true:=by
 have key:∀(l:List AH) (s:Bool×ByteArray),(∀x∈l,x∈d)→(s.1=true→∃x∈d,x.1=s.2∧Aa out x.1=false∧Ho x out=true)→(l.foldl (IY out) s).1=true →
   ∃x∈d,x.1=(l.foldl (IY out) s).2∧Aa out x.1=false∧Ho x out=true:=by
  intro l
  induction l with
  | nil=>intro s _ hs h;exact hs h
  | cons y l ih =>
   intro s hl hs h
   rw[List.foldl_cons]at h ⊢
   refine ih _ (fun x hx=>hl x (by simp[hx])) (fun hp=>?_) h
   unfold IY at hp ⊢
   split
   ·rename_i hc
    rw[if_pos hc]at hp
    exact hs hp
   ·rename_i hc
    simp only
    have hc:Aa out y.1=false∧Ho y out=true:=by simpa using hc
    split
    ·exact⟨y,hl y (by simp),rfl,hc⟩
    ·rename_i hc2
     have:s.1=true:=by
      cases hh:s.1 with
      | true=>rfl
      | false=>rw[hh]at hc2;simp at hc2
     exact hs this
 exact key d _ (fun _ h=>h) (fun h=>by cases h) h
def PL (d:List AH) (o:List ByteArray):Prop:=∀j,j<o.length→∃x∈d,x.1=o.getD j ByteArray.empty∧Aa (o.take j) x.1=false∧Ho x (o.take j)=true
theorem PL.snoc {d:List AH} {o:List ByteArray} (h:PL d o) {x:AH} (hx:x∈d) (h1:Aa o x.1=false) (h2:Ho x o=true):PL d (o++[x.1]):=by
 intro j hj
 by_cases hjo:j<o.length
 ·obtain⟨y,hy,e1,e2,e3⟩:=h j hjo
  refine⟨y,hy,?_,?_,?_⟩
  ·rw[e1];simp[List.getD_eq_getElem?_getD,List.getElem?_append,hjo]
  ·rw[List.take_append_of_le_length (by omega)];exact e2
  ·rw[List.take_append_of_le_length (by omega)];exact e3
 ·have hj2:j=o.length:=by simp at hj;omega
  subst hj2
  refine⟨x,hx,?_,?_,?_⟩
  ·simp[List.getD_eq_getElem?_getD]
  ·rw[List.take_append_of_le_length (by omega),List.take_length];exact h1
  ·rw[List.take_append_of_le_length (by omega),List.take_length];exact h2
theorem Ru {d:List AH}:∀ {n:Nat} {o:List ByteArray},PL d o→PL d (IZ d n o)
 | 0,_,h=>h
 | n+1,o,h=>by
  unfold IZ
  split
  ·rename_i hp
   obtain⟨x,hx,e,h1,h2⟩:=Y4 d o hp
   rw[←e]
   exact Ru (h.snoc hx h1 h2)
  ·exact h
theorem Tw (d:List AH):PL d (Bb d):=Ru fun j hj=>by simp at hj
theorem PL.ok {d:List AH} {o:List ByteArray} (h:PL d o):Vq d o:=by
 refine⟨fun s hs=>?_,?_⟩
 ·obtain⟨j,hj,rfl⟩:=Ek ByteArray.empty hs
  obtain⟨x,hx,e,-⟩:=h j hj
  rw[←e]
  exact Ez hx
 ·rw[List.pairwise_iff_getElem]
  intro i j hi hj hij
  obtain⟨x,hx,e,h1,-⟩:=h j hj
  have h2:=NJ h1 o[i] (by rw[List.mem_take_iff_getElem];exact⟨i,by omega,rfl⟩)
  rw[e]at h2
  rw[List.getD_eq_getElem?_getD,List.getElem?_eq_getElem hj]at h2
  exact h2
theorem Y5 {n:Nat} {l:List Nat} (h:l.Nodup) (hl:∀j∈l,j<n) (hn:n≤l.length) {k:Nat} (hk:k<n):k∈l:=by
 refine Classical.byContradiction fun hc=>?_
 have:=D8 n (k :: l) (List.nodup_cons.2 ⟨hc,h⟩) (fun j hj=>by
  rcases List.mem_cons.1 hj with rfl|hj
  ·exact hk
  ·exact hl j hj)
 simp at this
 omega
theorem Y6 {d:List AH} (hl:d.length≤(Bb d).length) {x:AH} (hx:x∈d):∃s∈Bb d,Am s x.1=true:=by
 have hA:=(Tw d).ok
 have h1:=Jo d hA
 have h0:=Ez hx
 have hd:=Db d x.1
 have h2:=Y5 (n:=d.length) h1 (fun j hj=>by
  obtain⟨s,hs,rfl⟩:=List.mem_map.1 hj
  have h1:=hA.decl s hs
  rcases Db d s with g|⟨_,g,_⟩<;>omega) (by simpa using hl) (k:=(A9 d x.1).toNat) (by omega)
 obtain⟨s,hs,e⟩:=List.mem_map.1 h2
 refine⟨s,hs,?_⟩
 rcases Db d s with g|⟨_,_,g1⟩
 ·have:=hA.decl s hs;omega
 ·rcases hd with g|⟨_,_,g2⟩
  ·omega
  ·rw[e]at g1
   exact CE (Ey g1) g2
def Hv (d:List AH) (s:ByteArray):Nat:=(Bb d).findIdx fun x=>Am x s
theorem MW (d:List AH) {s t:ByteArray} (h:Am s t=true):Hv d s=Hv d t:=by
 unfold Hv
 congr 1
 funext x
 cases h1:Am x s with
 | true=>exact(CE h1 h).symm
 | false =>
  cases h2:Am x t with
  | false=>rfl
  | true=>rw[CE h2 (Ey h)]at h1;cases h1
theorem MX {d:List AH} (hn:Dg d=0) (hl:d.length≤(Bb d).length) {x:AH} (hx:x∈d) {s:ByteArray} (hs:Aa x.2.1 s=true):Hv d s<Hv d x.1:=by
 obtain⟨t,ht,e⟩:=Y6 hl hx
 have hlt:Hv d x.1<(Bb d).length:=List.findIdx_lt_length_of_exists ⟨t,ht,e⟩
 have heq:Am ((Bb d)[Hv d x.1]) x.1=true:=List.findIdx_getElem (w:=hlt)
 obtain⟨y,hy,e1,-,h3⟩:=Tw d (Hv d x.1) hlt
 rw[List.getD_eq_getElem?_getD,List.getElem?_eq_getElem hlt]at e1
 have e1:y.1=(Bb d)[Hv d x.1]:=e1
 rw[←e1]at heq
 have hyx:=W7 hn hy hx heq
 subst hyx
 obtain⟨u,hu,eu⟩:=List.any_eq_true.1 hs
 have h4:Aa ((Bb d).take (Hv d y.1)) u=true:=List.all_eq_true.1 h3 u hu
 obtain⟨v,hv,ev⟩:=List.any_eq_true.1 h4
 rw[List.mem_take_iff_getElem]at hv
 obtain⟨i,hi,rfl⟩:=hv
 have hi2:i<Hv d y.1:=by omega
 refine Nat.lt_of_le_of_lt ?_ hi2
 refine Classical.byContradiction fun hc=>?_
 have h5:=List.not_of_lt_findIdx (p:=fun x=>Am x s) (xs:=Bb d) (i:=i) (by unfold Hv at hc;omega)
 have h6:Am ((Bb d)[i]) s=true:=CE ev eu
 try simp only at h5
 rw[h6]at h5
 exact absurd h5 (by simp)
def Sy (d:List AH) (s x:ByteArray):Prop:=Am s x=true∨Hv d s<Hv d x
theorem i5 {d:List AH} (hn:Dg d=0) (hl:d.length≤(Bb d).length) {s c:ByteArray} (hc:Sy d s c) {o:List ByteArray} (ho:∀x∈o,Sy d s x) {x:AH} (hx:x∈d):∀y∈FI c o x,Sy d s y:=by
 intro y hy
 unfold FI at hy
 split at hy
 ·rename_i h
  rw[Bool.and_eq_true]at h
  rcases List.mem_append.1 hy with hy|hy
  ·exact ho y hy
  ·have:y=x.1:=by simpa using hy
   subst this
   have h1:=MX hn hl hx h.1
   right
   rcases hc with hc|hc
   ·rw[MW d hc];exact h1
   ·omega
 ·exact ho y hy
theorem Rv {d:List AH} (hn:Dg d=0) (hl:d.length≤(Bb d).length) {s c:ByteArray} (hc:Sy d s c):∀ {l:List AH} {o:List ByteArray},(∀x∈l,x∈d)→(∀x∈o,Sy d s x)→∀y∈l.foldl (FI c) o,Sy d s y
 | [],_,_,ho=>ho
 | x :: l,o,hx,ho=>by
  rw[List.foldl_cons]
  exact Rv hn hl hc (fun y hy=>hx y (by simp[hy])) (i5 hn hl hc ho (hx x (by simp)))
theorem Pd {d:List AH} (hn:Dg d=0) (hl:d.length≤(Bb d).length) {s:ByteArray}:∀ {n i:Nat} {o:List ByteArray},(∀x∈o,Sy d s x)→∀y∈Dh d n i o,Sy d s y
 | 0,_,_,ho=>ho
 | n+1,i,o,ho=>by
  unfold Dh
  split
  ·rename_i hi
   exact Pd hn hl (Rv hn hl (ho _ (DA hi)) (fun _ h=>h) ho)
  ·exact ho
theorem nK {c:ByteArray} {o:List ByteArray} {x:AH} {y:ByteArray} (h:y∈o):y∈FI c o x:=by
 unfold FI
 split
 ·exact List.mem_append.2 (.inl h)
 ·exact h
theorem LV {c:ByteArray} {y:ByteArray}:∀ {l:List AH} {o:List ByteArray},y∈o→y∈l.foldl (FI c) o
 | [],_,h=>h
 | x :: l,o,h=>by rw[List.foldl_cons];exact LV (nK h)
theorem MY {d:List AH} {y:ByteArray}:∀ {n i:Nat} {o:List ByteArray},y∈o→y∈Dh d n i o
 | 0,_,_,h=>h
 | n+1,i,o,h=>by
  unfold Dh
  split
  ·exact MY (LV h)
  ·exact h
theorem K0 {l:List ByteArray} {s x:ByteArray} (h:x∈EE l s):x∈l∨x=s:=by
  unfold EE at h
  split at h
  · exact .inl h
  · simp only[List.mem_append,List.mem_cons,List.mem_singleton]at h
    rcases h with h|h
    · first
        | exact .inl (List.mem_of_mem_take h)
        | (rcases h with h | h
           · exact .inl (List.mem_of_mem_take h)
           · exact .inr (by simpa using h))
    · first
        | exact .inl (List.mem_of_mem_drop h)
        | (rcases h with h | h
           · exact .inr h
           · exact .inl (List.mem_of_mem_drop h))
theorem Tx {l:List ByteArray} {s x:ByteArray} (h:x∈l):x∈EE l s:=by
 unfold EE
 split
 ·exact h
 ·have h2:x∈l.take (kM l s)∨x∈l.drop (kM l s):=List.mem_append.1 (by rw[List.take_append_drop];exact h)
  simp only[List.mem_append,List.mem_cons,List.mem_singleton]
  rcases h2 with h2|h2<;>simp[h2]
theorem W8 {l:List ByteArray} {s:ByteArray}:Aa (EE l s) s=true:=by
  unfold EE
  split
  · rename_i h
    first
      | exact Ga l ByteArray.empty _ h.1 h.2
      | (have h : kM l s < l.length ∧ Am (l.getD (kM l s) ByteArray.empty) s = true := by simpa using h
         exact Ga l ByteArray.empty _ h.1 h.2)
  · unfold Aa
    rw[List.any_eq_true]
    exact⟨s,by simp,Ex s⟩
theorem LW {l:List ByteArray} {s:ByteArray} (h:s∈l):Aa l s=true:=List.any_eq_true.2 ⟨s,h,Ex s⟩
theorem LX {l m:List ByteArray} {s:ByteArray} (hs:∀x∈l,x∈m) (h:Aa l s=true):Aa m s=true:=by
 obtain⟨x,hx,e⟩:=List.any_eq_true.1 h
 exact List.any_eq_true.2 ⟨x,hs x hx,e⟩
theorem W9:∀ {l o:List ByteArray} {x:ByteArray},x∈l.foldl EE o→x∈o∨x∈l
 | [],_,_,h=>.inl h
 | y :: l,o,x,h=>by
  rw[List.foldl_cons]at h
  rcases W9 h with h|h
  ·rcases K0 h with h|h
   ·exact .inl h
   ·exact .inr (by simp[h])
  ·exact .inr (by simp[h])
theorem Tz:∀ {l o:List ByteArray} {x:ByteArray},x∈o→x∈l.foldl EE o
 | [],_,_,h=>h
 | y :: l,o,x,h=>by rw[List.foldl_cons];exact Tz (Tx h)
theorem Rw:∀ {l o:List ByteArray} {x:ByteArray},x∈l→Aa (l.foldl EE o) x=true
 | [],_,_,h=>by cases h
 | y :: l,o,x,h=>by
  rw[List.foldl_cons]
  rcases List.mem_cons.1 h with rfl|h
  ·exact LX (fun z hz=>Tz hz) (W8 (l:=o) (s:=x))
  ·exact Rw h
theorem MZ {d:List AH} {s:ByteArray} (h:0≤A9 d s):Aa (Di d s) s=true:=by
 unfold Di
 rw[if_neg (by omega)]
 exact Rw (MY (by simp))
theorem Rx {d:List AH} (hn:Dg d=0) (hl:d.length≤(Bb d).length) {s x:ByteArray} (h:Aa (Di d s) x=true):Sy d s x:=by
 obtain⟨y,hy,e⟩:=List.any_eq_true.1 h
 have hb:Sy d s y:=by
  unfold Di at hy
  split at hy
  ·cases hy
  ·rcases W9 hy with hy|hy
   ·cases hy
   ·refine Pd hn hl (fun z hz=>?_) y hy
    have:z=s:=by simpa using hz
    rw[this]
    exact .inl (Ex s)
 rcases hb with hb|hb
 ·exact .inl (CE hb e)
 ·rw[MW d e]at hb
  exact .inr hb
theorem GH {d:List AH} {s:ByteArray} (h:s∈AQ d):∃x∈d,x.1=s:=by
 have key:∀(l:List AH) (o:List ByteArray),s∈l.foldl (fun o x=>EE o x.1) o→s∈o∨∃x∈l,x.1=s:=by
  intro l
  induction l with
  | nil=>intro o h;exact .inl h
  | cons x l ih =>
   intro o h
   rw[List.foldl_cons]at h
   rcases ih _ h with h|⟨y,hy,e⟩
   ·rcases K0 h with h|h
    ·exact .inl h
    ·exact .inr ⟨x,by simp,h.symm⟩
   ·exact .inr ⟨y,by simp[hy],e⟩
 rcases key d [] h with h|h
 ·cases h
 ·exact h
theorem Ry {d:List AH} {x:AH} (h:x∈d):Aa (AQ d) x.1=true:=by
 have keep:∀(l:List AH) (o:List ByteArray),∀y∈o,y∈l.foldl (fun o x=>EE o x.1) o:=by
  intro l
  induction l with
  | nil=>intro o y h;exact h
  | cons x l ih=>intro o y h;rw[List.foldl_cons];exact ih _ y (Tx h)
 have key:∀(l:List AH) (o:List ByteArray),x∈l→Aa (l.foldl (fun o x=>EE o x.1) o) x.1=true:=by
  intro l
  induction l with
  | nil=>intro o h;cases h
  | cons y l ih =>
   intro o h
   rw[List.foldl_cons]
   rcases List.mem_cons.1 h with rfl|h
   ·exact LX (keep l _) (W8 (l:=o) (s:=x.1))
   ·exact ih _ h
 exact key d [] h
theorem XA {d:List AH} (hn:Dg d=0) (hl:d.length≤(Bb d).length) (h2:d.length≤256) {i j:Nat} (hi:i<(AQ d).length) (hj:j<(AQ d).length)
  (h:Fm (HF d (AQ d) ((AQ d).getD i ByteArray.empty)) (HF d (AQ d) ((AQ d).getD j ByteArray.empty))=true):Am ((AQ d).getD i ByteArray.empty) ((AQ d).getD j ByteArray.empty)=true:=by
 have hnl:=Ew d d.length
 rw[List.take_length]at hnl
 have hal:(AQ d).length≤4096:=by omega
 generalize hs:(AQ d).getD i ByteArray.empty=s at *
 generalize ht:(AQ d).getD j ByteArray.empty=t at *
 have hsd:0≤A9 d s:=by
  obtain⟨x,hx,e⟩:=GH (s:=s) (by rw[←hs];exact DA hi)
  rw[←e];exact Ez hx
 have htd:0≤A9 d t:=by
  obtain⟨x,hx,e⟩:=GH (s:=t) (by rw[←ht];exact DA hj)
  rw[←e];exact Ez hx
 obtain⟨c1,w1,-⟩:=ER (d:=d) hal s i
 obtain⟨c2,w2,-⟩:=ER (d:=d) hal t i
 obtain⟨c3,-,-⟩:=ER (d:=d) hal s j
 obtain⟨c4,-,-⟩:=ER (d:=d) hal t j
 unfold Fm at h
 rw[Bool.and_eq_true]at h
 have b1:=Rx hn hl (c2.1 (Ky w1 w2 h.1 (c1.2 ⟨hi,by rw[hs];exact MZ hsd⟩))).2
 have b2:=Rx hn hl (c3.1 (Ky w2 w1 h.2 (c4.2 ⟨hj,by rw[ht];exact MZ htd⟩))).2
 rw[hs]at b1
 rw[ht]at b2
 rcases b1 with b1|b1
 ·exact Ey b1
 ·rcases b2 with b2|b2
  ·exact b2
  ·omega
end
/- Functions of grammarlabref04: name. -/
section
attribute [local go_sem] QX Yx Ht cs0 cs1
def wC (d:List AH) (all:List ByteArray) (codes:List (List Int)) (b:List Int):Nat→Nat→List ByteArray→ByteArray ⊕ List ByteArray
 | 0,_,l=>.inr l
 | n+1,i,l=>if Fm (codes.getD i []) b=true then .inl (all.getD i ByteArray.empty) else wC d all codes b n (i+1) (if Ri b (i:Int)=true then l++[all.getD i ByteArray.empty] else l)
def XB (l:List ByteArray) (s:ByteArray) (i:Nat):ByteArray:=(if 0<(i:Int) then s++ByteArray.mk #[38] else s)++l.getD i ByteArray.empty
def nL (l:List ByteArray):ByteArray:=(List.range l.length).foldl (XB l) ByteArray.empty
def Hw (d:List AH) (all:List ByteArray) (codes:List (List Int)) (b:List Int):ByteArray :=
 match wC d all codes b all.length 0 [] with
 | .inl s=>s
 | .inr l=>nL (Bj d l)
theorem Lw {d:List AH} {x:ByteArray}:∀ {l o:List ByteArray},x∈l.foldl (KH d) o→x∈o∨x∈l
 | [],_,h=>.inl h
 | y :: l,o,h=>by
  rw[List.foldl_cons]at h
  rcases Lw h with h|h
  ·unfold KH at h
   split at h
   ·rcases K0 h with h|h
    ·exact .inl h
    ·exact .inr (by simp[h])
   ·exact .inl h
  ·exact .inr (by simp[h])
theorem NT {d:List AH} {l:List ByteArray} {x:ByteArray} (h:x∈Bj d l):x∈l:=by
 unfold Bj QE at h
 obtain⟨i,hi,rfl⟩:=List.mem_map.1 h
 rw[List.mem_filter,List.mem_range]at hi
 rcases Lw (DA (d:=ByteArray.empty) hi.1) with h|h
 ·cases h
 ·exact h
theorem VO (d:List AH) (l:List ByteArray):(Bj d l).length≤l.length:=Nat.le_trans (Wt _ _ _) (Io d l)
theorem Y7 {l:List ByteArray} (h:∀s∈l,s.size≤32) (k:Nat):(l.getD k ByteArray.empty).size≤32:=by
 rw[List.getD_eq_getElem?_getD]
 cases hh:l[k]? with
 | none=>simp
 | some x=>exact h x (List.mem_of_getElem? hh)
def Rz (l:List ByteArray) (n:Nat):ByteArray:=(List.range n).foldl (XB l) ByteArray.empty
theorem R0 (l:List ByteArray) (n:Nat):Rz l (n+1)=XB l (Rz l n) n:=by
 unfold Rz
 rw[List.range_succ,List.foldl_append]
 rfl
theorem R1 {l:List ByteArray} (h:∀s∈l,s.size≤32):∀n,(Rz l n).size≤33*n
 | 0=>by simp[Rz]
 | n+1=>by
  have h1:=R1 h n
  have h2:=Y7 h n
  rw[R0]
  unfold XB
  split
  ·rw[ByteArray.size_append,ByteArray.size_append]
   have:(ByteArray.mk #[38]).size=1:=rfl
   omega
  ·rw[ByteArray.size_append]
   omega
def Qb:Ah:={ ins:=[Es,Br,QC,EC],pre:=fun(d,all,codes,b,_)=>Rm d∧List.length d≤256∧List.length all≤256∧List.length codes=List.length all∧(∀s∈(all:List ByteArray),s.size≤32)∧(∀x∈(codes:List (List Int)),x.length≤64)∧List.length b≤64,out:=fun(d,all,codes,b,_)=>[.p T9 (Hw d all codes b)] }
theorem i6:Ao Tryz.prog 101 Qb:=by
 refine AW Tryz.func101 (by kernel_rfl) rfl Tryz.ntmps101 (by decide) (by kernel_rfl) (AF [(134,QX),(135,Yx),(136,Ht)]) (AD iP (AD mZ (AD Rq AI))) ?_
 rintro w0 O0 ⟨d,all,codes,b,u⟩ hc-⟨hs,hd,hall,hcd,hsz,hcw,hb⟩
 have hall:all.length≤256:=hall
 have hcd:codes.length=all.length:=hcd
 simp only[Qb,AM]
 repeat'(first|exact trivial|refine eS rfl ?_|refine AB ?_|refine rX [0,1,2,3,8,9,10,11,12,16,24,31,45,49] hc ?_ ?_|refine rC ?_ ?_<;>intro AA<;>try(cases AA;done))
 refine AJ (ι:={x:Nat×List ByteArray//x.1≤all.length∧x.2.length≤x.1∧(∀s∈x.2,s.size≤32)∧wC d all codes b (all.length-x.1) x.1 x.2=wC d all codes b all.length 0 []}) (fun x=>⟨[(0,.p Es d),(1,.p Br all),(2,.p QC codes),(3,.p EC b),(9,.sr 38 T9 0 x.1.2.length),(10,.p (.int .i64) (x.1.1:Int))],[(38,.arr 9 T9 x.1.2)]⟩) (fun x=>all.length-x.1.1) ⟨(0,[]),by simp,by simp,by simp,rfl⟩ (AC [(38,.nil)] rfl rfl ?_ ?_) (fun x=>?_)
 ·first|exact eN|refine eM ?_
 ·first|exact eN|refine eM ?_
 ·obtain⟨⟨i,l⟩,hi,hli,hls,hg⟩:=x
  simp only at hi hli hls hg
  have hstep:i<all.length→wC d all codes b (all.length-i) i l=if Fm (codes.getD i []) b=true then .inl (all.getD i ByteArray.empty) else wC d all codes b (all.length-(i+1)) (i+1) (if Ri b (i:Int)=true then l++[all.getD i ByteArray.empty] else l):=by
   intro h
   rw[show all.length-i=(all.length-(i+1))+1 by omega]
   rfl
  simp only
  repeat'(first|exact trivial|refine eS rfl ?_|refine AB ?_|refine rX [0,1,2,3,8,9,10,11,12,16,24,31,45,49] hc ?_ ?_|refine rC ?_ ?_<;>intro AA<;>try(cases AA;done))
  ·exact⟨by rw[hcd];exact AA,Nat.le_trans (Kx hcw i) (by decide),Nat.le_trans hb (by decide)⟩
  ·assumption
  ·have hi2:i<all.length:=by exact eV
   have hr:Hw d all codes b=all.getD i ByteArray.empty:=by
    unfold Hw
    rw[←hg,hstep hi2,if_pos AA]
   exact AG hc [.tmp 8] rfl (.inl rfl) (by simp) (by rw[hr];first|exact eR|refine Av ?_)
  ·have hi2:i<all.length:=by exact eV
   exact⟨Int.ofNat_lt.2 hi2,by simp only[AO];omega⟩
  ·exact eV
  ·have hi2:i<all.length:=by exact eV
   have hn:=hstep hi2
   rw[if_neg (by rw[‹Fm _ _=false›];simp),if_pos AA]at hn
   refine⟨⟨(i+1,l++[all.getD i ByteArray.empty]),by simp only;omega,by simp only[List.length_append,List.length_singleton];omega,?_,hn.symm.trans hg⟩,by simp only;omega,AC [(38,.nm 38)] rfl rfl ?_ ?_⟩
   ·intro s hs
    rcases List.mem_append.1 hs with hs|hs
    ·exact hls s hs
    ·have:s=all.getD i ByteArray.empty:=by simpa using hs
     rw[this]
     exact Y7 hsz i
   ·first|exact eN|refine eM ?_
   ·first|exact eN|refine eM ?_
  ·exact eV
  ·have hi2:i<all.length:=by exact eV
   have hn:=hstep hi2
   rw[if_neg (by rw[‹Fm _ _=false›];simp),if_neg (by rw[AA];simp)]at hn
   refine⟨⟨(i+1,l),by simp only;omega,by simp only;omega,hls,hn.symm.trans hg⟩,by simp only;omega,AC [(38,.nm 38)] rfl rfl ?_ ?_⟩
   ·first|exact eN|refine eM ?_
   ·first|exact eN|refine eM ?_
  ·have hr:Hw d all codes b=nL (Bj d l):=by
    unfold Hw
    rw[←hg]
    have:all.length-i=0:=by exact eV
    rw[this]
    rfl
   refine HQ [38] ?_
   repeat'(first|exact trivial|refine eS rfl ?_|refine AB ?_|refine rX [0,1,2,3,8,9,10,11,12,16,24,31,45,49] hc ?_ ?_|refine rC ?_ ?_<;>intro AA<;>try(cases AA;done))
   ·exact⟨hs,hd,by omega⟩
   ·have hmm:∀s∈Bj d l,s.size≤32:=fun s h=>hls s (NT h)
    have hml:=VO d l
    have hjf:nL (Bj d l)=Rz (Bj d l) (Bj d l).length:=rfl
    rw[hjf]at hr
    generalize Bj d l=m at *
    refine AJ (ι:={k:Nat//k≤m.length}) (fun k=>⟨[(9,.p Br m),(11,.p T9 (Rz m k.1)),(12,.p (.int .i64) (k.1:Int))],[]⟩) (fun k=>m.length-k.1) ⟨0,Nat.zero_le _⟩ (AC [] rfl rfl ?_ ?_) (fun k=>?_)
    ·first|exact eN|refine eM ?_
    ·first|exact eN|refine eM ?_
     rfl
    ·obtain⟨k,hk⟩:=k
     have hk:k≤m.length:=hk
     have hjs:=R1 hmm k
     have hss:=R0 m k
     have hs2:=Y7 hmm k
     unfold XB at hss
     simp only
     repeat'(first|exact trivial|refine eS rfl ?_|refine AB ?_|refine rX [0,1,2,3,8,9,10,11,12,16,24,31,45,49] hc ?_ ?_|refine rC ?_ ?_<;>intro AA<;>try(cases AA;done))
     ·have h1:(ByteArray.mk #[38]).size=1:=rfl
      rw[h1]
      simp only[AO]
      exact eV
     ·refine⟨by assumption,?_⟩
      have h1:(ByteArray.mk #[38]).size=1:=rfl
      rw[ByteArray.size_append,h1]
      simp only[AO]
      exact eV
     ·exact eV
     ·have hk2:k<m.length:=by exact eV
      rw[if_pos AA]at hss
      refine⟨⟨k+1,hk2⟩,by simp only;omega,AC [] rfl rfl ?_ ?_⟩
      ·first|exact eN|refine eM ?_
      ·simp only[hss]
       first|exact eN|refine eM ?_
     ·refine⟨by assumption,?_⟩
      simp only[AO]
      exact eV
     ·exact eV
     ·have hk2:k<m.length:=by exact eV
      rw[if_neg (Int.not_lt.2 AA)]at hss
      refine⟨⟨k+1,hk2⟩,by simp only;omega,AC [] rfl rfl ?_ ?_⟩
      ·first|exact eN|refine eM ?_
      ·simp only[hss]
       first|exact eN|refine eM ?_
     ·have hk2:k=m.length:=by exact eV
      rw[←hk2]at hr
      exact AG hc [.tmp 8] rfl (.inl rfl) (by simp) (by rw[hr];first|exact eR|refine Av ?_)
end
/- Functions of grammarlabref04: Codes. -/
section
attribute [local go_sem] NI Jm fF Qa Qb QZ
def FE (x:AP) (out:List AP):Nat→Nat
 | 0=>0
 | n+1=>if Fq x (out.getD n c0)=true then FE x out n else n+1
def VP (out:List AP) (x:AP):List AP:=out.take (FE x out out.length)++[x]++out.drop (FE x out out.length)
def Ad (d:List AH):List (List Int):=(AQ d).map fun s=>HF d (AQ d) s
def GI (d:List AH) (all:List ByteArray) (codes:List (List Int)) (out:List AP) (b:List Int):List AP:=VP out (Hw d all codes b,b)
def Ob (d:List AH):List AP→List Int→List AP:=GI d (AQ d) (Ad d)
theorem Ma (d:List AH) (all:List ByteArray) (codes:List (List Int)):∀(l:List (List Int)) (o:List AP),(l.foldl (GI d all codes) o).length=o.length+l.length
 | [],o=>by simp
 | b :: l,o=>by
  rw[List.foldl_cons,Ma d all codes l]
  unfold GI VP
  simp only[List.length_append,List.length_take,List.length_drop,List.length_cons,List.length_nil]
  omega
theorem R2 {d:List AH} {all:List ByteArray} {codes:List (List Int)}:∀ {l:List (List Int)} {o:List AP},(∀c∈l,c.length≤64)→(∀y∈o,y.2.length≤64)→∀y∈l.foldl (GI d all codes) o,y.2.length≤64
 | [],_,_,ho=>ho
 | b :: l,o,hl,ho=>by
  rw[List.foldl_cons]
  refine R2 (fun c hc=>hl c (by simp[hc])) (fun y hy=>?_)
  unfold GI VP at hy
  simp only[List.mem_append,List.mem_singleton]at hy
  rcases hy with (hy|hy)|hy
  ·exact ho y (List.mem_of_mem_take hy)
  ·rw[hy];exact hl b (by simp)
  ·exact ho y (List.mem_of_mem_drop hy)
theorem XC (x:AP) (out:List AP):∀n,FE x out n≤n
 | 0=>Nat.le_refl _
 | n+1=>by
  unfold FE
  split
  ·exact Nat.le_succ_of_le (XC x out n)
  ·exact Nat.le_refl _
def AL (d:List AH):List AP:=(A0 (Ad d)).foldl (Ob d) []
def Bq (d:List AH):List AP×Int :=
 if BG d≠0 then ([],BG d) else if 256<(A0 (Ad d)).length then ([],7) else (AL d,0)
theorem Y8 {s:ByteArray} {b:Bool} (h:Ed s b=true):s.size≤32:=by
 unfold Ed at h
 rw[Bool.and_eq_true]at h
 have h1:=h.1
 unfold OO at h1
 simp only[Bool.not_eq_true',Bool.or_eq_false_iff,decide_eq_false_iff_not]at h1
 have:=h1.1.1.2
 omega
theorem XD {d:List AH} (hn:Dg d=0):∀s∈AQ d,s.size≤32:=by
 intro s hs
 obtain⟨x,hx,rfl⟩:=GH hs
 obtain⟨j,hj,rfl⟩:=Ek d0 hx
 exact Y8 (Kz hn j hj).2
def Jq (d:List AH) (n:Nat):List (List Int):=((AQ d).take n).map fun s=>HF d (AQ d) s
theorem Y9 {d:List AH} {n:Nat} (h:n≤(AQ d).length):(Jq d n).length=n:=by simp[Jq,h]
theorem XE {d:List AH} {n:Nat} (h:n<(AQ d).length):Jq d (n+1)=Jq d n++[HF d (AQ d) ((AQ d).getD n ByteArray.empty)]:=by
 unfold Jq
 rw[Au _ ByteArray.empty h,List.map_append]
 rfl
theorem ZA (d:List AH):Jq d (AQ d).length=Ad d:=by simp[Jq,Ad]
theorem ZB (d:List AH):(Ad d).length=(AQ d).length:=by simp[Ad]
theorem Mb {d:List AH} (h:d.length≤256):∀c∈Ad d,c.length≤64:=by
 intro c hc
 unfold Ad at hc
 obtain⟨s,-,rfl⟩:=List.mem_map.1 hc
 have hnl:=Ew d d.length
 rw[List.take_length]at hnl
 exact(ER (d:=d) (all:=AQ d) (by omega) s 0).2.2
theorem XF {i:Nat}:∀ {n k:Nat} {l:List (List Int)},(∀c∈l,c.length≤64)→∀c∈Gv i n k l,c.length≤64
 | 0,_,_,h=>h
 | n+1,k,l,h=>by
  unfold Gv
  split
  ·exact XF (Wx h i k)
  ·exact h
theorem NU:∀ {n i:Nat} {l:List (List Int)},(∀c∈l,c.length≤64)→∀c∈Ip n i l,c.length≤64
 | 0,_,_,h=>h
 | n+1,i,l,h=>by
  unfold Ip
  split
  ·exact NU (XF h)
  ·exact h
theorem XG {out:List AP} {x y:AP}:y∈VP out x↔y=x∨y∈out:=by
 unfold VP
 rw[List.mem_append,List.mem_append,List.mem_singleton]
 have h:=List.mem_append (a:=y) (s:=out.take (FE x out out.length)) (t:=out.drop (FE x out out.length))
 rw[List.take_append_drop]at h
 rw[h]
 constructor
 ·rintro ((h|h)|h)
  ·exact .inr (.inl h)
  ·exact .inl h
  ·exact .inr (.inr h)
 ·rintro (h|h|h)
  ·exact .inl (.inr h)
  ·exact .inl (.inl h)
  ·exact .inr h
def Iq:Ah:={ ins:=[Es],pre:=fun _=>True,out:=fun(d,_)=>[.p JF (Bq d).1,.p Rb (Bq d).2] }
theorem NV:Ao Tryz.prog 64 Iq:=by
 refine AW Tryz.func64 (by kernel_rfl) rfl Tryz.ntmps64 (by decide) (by kernel_rfl) (AF [(97,NI),(98,Jm),(99,fF),(100,Qa),(101,Qb),(102,QZ)]) (AD iW (AD Tl (AD uH (AD i4 (AD i6 (AD iZ AI)))))) ?_
 rintro w0 O0 ⟨d,u⟩ hc - -
 simp only[Iq,AM]
 repeat'(first|exact trivial|refine eS rfl ?_|refine AB ?_|refine rX [0,2,3,4,5,6,7,8,9,10,11,12,13,17,24,41,45,73] hc ?_ ?_|refine rC ?_ ?_<;>intro AA<;>try(cases AA;done))
 ·have h1:Bq d=([],BG d):=by unfold Bq;rw[if_pos AA]
  exact AG hc [.tmp 2,.tmp 3] rfl (.inl rfl) (by simp) (by rw[h1];first|exact eR|refine Av ?_)
 ·have h3:BG d=0:=by simpa using AA
  obtain⟨-,h2,-⟩:=A3 h3
  exact Nat.le_trans h2 (by decide)
 ·have h3:BG d=0:=by simpa using AA
  obtain⟨hsup,hd,-,hn,-⟩:=A3 h3
  have hal:=Ew d d.length
  rw[List.take_length]at hal
  have hsz:=XD hn
  refine AJ (ι:={n:Nat//n≤(AQ d).length}) (fun n=>⟨[(0,.p Es d),(5,.p Br (AQ d)),(6,.sr 36 EC 0 (Jq d n.1).length),(7,.p (.int .i64) (n.1:Int))],[(36,.arr 81 EC (Jq d n.1))]⟩) (fun n=>(AQ d).length-n.1) ⟨0,Nat.zero_le _⟩ (AC [(36,.nil)] rfl rfl ?_ ?_) (fun n=>?_)
  ·first|exact eN|refine eM ?_
   rfl
  ·first|exact eN|refine eM ?_
   rfl
  ·obtain⟨n,hnn⟩:=n
   have hcl:=Y9 hnn
   have hs:=fun h=>XE (d:=d) (n:=n) h
   simp only
   repeat'(first|exact trivial|refine eS rfl ?_|refine AB ?_|refine rX [0,2,3,4,5,6,7,8,9,10,11,12,13,17,24,41,45,73] hc ?_ ?_|refine rC ?_ ?_<;>intro AA<;>try(cases AA;done))
   ·refine⟨AA,⟨hd,by dsimp only[Ty.den]at *;omega⟩,?_⟩
    simp only[AO]
    dsimp only[Ty.den]at *
    omega
   ·exact eV
   ·have hn2:n<(AQ d).length:=by exact eV
    have e:=hs hn2
    refine⟨⟨n+1,by omega⟩,by simp only;omega,AC [(36,.nm 36)] rfl rfl ?_ ?_⟩
    ·simp only[e]
     first|exact eN|refine eM ?_
    ·simp only[e]
     first|exact eN|refine eM ?_
   ·have hn2:n=(AQ d).length:=by exact eV
    subst hn2
    rw[ZA]
    have hcL:=ZB d
    have hwid:=Mb hd
    have hfw:∀c∈A0 (Ad d),c.length≤64:=NU hwid
    refine HQ [36] ?_
    repeat'(first|exact trivial|refine eS rfl ?_|refine AB ?_|refine rX [0,2,3,4,5,6,7,8,9,10,11,12,13,17,24,41,45,73] hc ?_ ?_|refine rC ?_ ?_<;>intro AA<;>try(cases AA;done))
    ·exact⟨by omega,hwid⟩
    ·have h1:Bq d=([],7):=by
      unfold Bq
      rw[if_neg (by rw[h3];simp),if_pos (by omega)]
     exact AG hc [.tmp 2,.tmp 3] rfl (.inl rfl) (by simp) (by rw[h1];first|exact eR|refine Av ?_)
    ·have hr:Bq d=((A0 (Ad d)).foldl (GI d (AQ d) (Ad d)) [],0):=by
      unfold Bq
      rw[if_neg (by rw[h3];simp),if_neg (by omega)]
      rfl
     generalize A0 (Ad d)=fam at *
     generalize Ad d=codes at *
     generalize AQ d=all at *
     refine AJ (ι:={k:Nat//k≤fam.length}) (fun k=>⟨[(0,.p Es d),(5,.p Br all),(6,.p QC codes),(8,.p QC fam),(9,.sr 9 VF 0 ((fam.take k.1).foldl (GI d all codes) []).length),(10,.p (.int .i64) (k.1:Int))],[(9,.arr 104 VF ((fam.take k.1).foldl (GI d all codes) []))]⟩) (fun k=>fam.length-k.1) ⟨0,Nat.zero_le _⟩ (AC [(9,.nil)] rfl rfl ?_ ?_) (fun k=>?_)
     ·first|exact eN|refine eM ?_
      rfl
     ·first|exact eN|refine eM ?_
      rfl
     ·obtain⟨k,hk⟩:=k
      have hol:=Ma d all codes (fam.take k) []
      have htl:(fam.take k).length=k:=by rw[List.length_take];exact Nat.min_eq_left hk
      have how:=R2 (d:=d) (all:=all) (codes:=codes) (l:=fam.take k) (o:=[]) (fun c hc=>hfw c (List.mem_of_mem_take hc)) (by simp)
      have hss:=fun h:k<fam.length=>Ea (GI d all codes) fam [] [] h
      rw[htl]at hol
      simp only[List.length_nil,Nat.zero_add]at hol
      generalize ho:(fam.take k).foldl (GI d all codes) []=out at *
      simp only
      repeat'(first|exact trivial|refine eS rfl ?_|refine AB ?_|refine rX [0,2,3,4,5,6,7,8,9,10,11,12,13,17,24,41,45,73] hc ?_ ?_|refine rC ?_ ?_<;>intro AA<;>try(cases AA;done))
      ·exact⟨AA,⟨hsup,hd,by omega,hcL,hsz,hwid,Kx hfw k⟩,AA⟩
      ·have hk2:k<fam.length:=by exact eV
       have e:=hss hk2
       have hbw:=Kx hfw k
       generalize fam.getD k []=b at *
       unfold GI at e
       generalize Hw d all codes b=nm at *
       refine AJ (ι:={q:Nat//q≤out.length∧FE (nm,b) out q=FE (nm,b) out out.length}) (fun q=>⟨[(0,.p Es d),(5,.p Br all),(6,.p QC codes),(8,.p QC fam),(9,.sr 9 VF 0 out.length),(10,.p (.int .i64) (k:Int)),(11,.bp 11 [] 0),(12,.p (.int .i64) (q.1:Int))],[(9,.arr 104 VF out),(11,.box 104 true [.p T9 nm,.p EC b])]⟩) (fun q=>q.1) ⟨out.length,Nat.le_refl _,rfl⟩ (AC [(9,.nm 9),(11,.nm 11)] rfl rfl ?_ ?_) (fun q=>?_)
       ·first|exact eN|refine eM ?_
       ·first|exact eN|refine eM ?_
       ·obtain⟨q,hq,hins⟩:=q
        have hq:q≤out.length:=hq
        simp only
        repeat'(first|exact trivial|refine eS rfl ?_|refine AB ?_|refine rX [0,2,3,4,5,6,7,8,9,10,11,12,13,17,24,41,45,73] hc ?_ ?_|refine rC ?_ ?_<;>intro AA<;>try(cases AA;done))
        ·refine⟨fun h=>by omega,fun h=>by exact eV,fun h=>⟨Nat.le_trans hbw (by decide),Nat.le_trans (how _ (AE out c0 (k:=((q:Int)-1).toNat) (by omega))) (by decide)⟩⟩
        ·omega
        ·obtain⟨g1,g2⟩:=AA
         obtain⟨q,rfl⟩:∃r,q=r+1:=⟨q-1,by omega⟩
         have g3:((q+1:Nat):Int)-1=(q:Int):=by omega
         refine⟨⟨q,by omega,?_⟩,Nat.lt_succ_self q,AC [(9,.nm 9),(11,.nm 11)] rfl rfl ?_ ?_⟩
         ·rw[←hins]
          rw[g3,Int.toNat_natCast]at g2
          show _=if Fq (nm,b) (out.getD q c0)=true then FE (nm,b) out q else q+1
          rw[if_pos g2]
         ·first|exact eN|refine eM ?_
         ·first|exact eN|refine eM ?_
          show (q:Int)+1-1=q
          omega
        ·refine⟨Int.ofNat_le.2 hq,?_⟩
         rw[List.length_take]
         simp only[AO]
         omega
        ·rw[List.length_take]
         simp only[AO]
         omega
        ·refine⟨Int.ofNat_le.2 hq,?_⟩
         rw[List.length_take,List.length_drop]
         simp only[AO]
         omega
        ·omega
        ·have hpos:FE (nm,b) out q=q:=by
          cases q with
          | zero=>rfl
          | succ q =>
           have g3:((q+1:Nat):Int)-1=(q:Int):=by omega
           have:=AA (by omega)
           rw[g3,Int.toNat_natCast]at this
           show (if Fq (nm,b) (out.getD q c0)=true then FE (nm,b) out q else q+1)=q+1
           rw[if_neg (by rw[this];simp)]
         unfold VP at e
         rw[←hins,hpos]at e
         refine⟨⟨k+1,by omega⟩,by simp only;omega,AC [(9,.nm 80)] rfl rfl ?_ ?_⟩
         ·first|exact eN|refine eM ?_
          exact e.symm
         ·first|exact eN|refine eM ?_
          have e2:=congrArg List.length e
          rw[List.length_append,List.length_append]at e2
          exact e2.symm
      ·have hk2:k=fam.length:=by exact eV
       rw[hk2,List.take_length]at ho
       rw[ho]at hr
       refine HQ [9] ?_
       exact AG hc [.tmp 2,.tmp 3] rfl (.inl rfl) (by simp) (by rw[hr];first|exact eR|refine Av ?_)
end
/- Plain: each declared type has a number among the codes. -/
section
theorem UA {d:List AH}:∀ {l:List (List Int)} {o:List AP} {y:AP},y∈l.foldl (Ob d) o↔y∈o∨∃b∈l,y=(Hw d (AQ d) (Ad d) b,b)
 | [],o,y=>by simp
 | b :: l,o,y=>by
  rw[List.foldl_cons,UA]
  unfold Ob GI
  rw[XG]
  simp only[List.mem_cons]
  constructor
  ·rintro ((h|h)|⟨c,hc,e⟩)
   ·exact .inr ⟨b,.inl rfl,h⟩
   ·exact .inl h
   ·exact .inr ⟨c,.inr hc,e⟩
  ·rintro (h|⟨c,rfl|hc,e⟩)
   ·exact .inl (.inr h)
   ·exact .inl (.inl e)
   ·exact .inr ⟨c,hc,e⟩
theorem Dj {d:List AH} {y:AP}:y∈AL d↔∃b∈A0 (Ad d),y=(Hw d (AQ d) (Ad d) b,b):=by
 unfold AL
 rw[UA]
 simp
theorem Jr (d:List AH):(AL d).length=(A0 (Ad d)).length:=by
 have h:=Ma d (AQ d) (Ad d) (A0 (Ad d)) []
 rw[List.length_nil,Nat.zero_add]at h
 exact h
theorem nM {l:List (List Int)} {i k:Nat} {c:List Int} (h:c∈l):c∈Gu l i k:=by
 unfold Gu
 split
 ·exact List.mem_append.2 (.inl h)
 ·exact h
theorem XH {i:Nat} {c:List Int}:∀ {n k:Nat} {l:List (List Int)},c∈l→c∈Gv i n k l
 | 0,_,_,h=>h
 | n+1,k,l,h=>by
  unfold Gv
  split
  ·exact XH (nM h)
  ·exact h
theorem XI {c:List Int}:∀ {n i:Nat} {l:List (List Int)},c∈l→c∈Ip n i l
 | 0,_,_,h=>h
 | n+1,i,l,h=>by
  unfold Ip
  split
  ·exact XI (XH h)
  ·exact h
theorem Pe (d:List AH) {i:Nat} (h:i<(AQ d).length):(Ad d).getD i []=HF d (AQ d) ((AQ d).getD i ByteArray.empty):=by
 unfold Ad
 simp[List.getD_eq_getElem?_getD,h]
theorem fG {d:List AH} (hn:Dg d=0) (hl:d.length≤(Bb d).length) (h2:d.length≤256) {j:Nat} (hj:j<(AQ d).length):∀(m i:Nat) (l:List ByteArray),i+m=(AQ d).length→i≤j →
  ∃s,wC d (AQ d) (Ad d) ((Ad d).getD j []) m i l=.inl s∧Am s ((AQ d).getD j ByteArray.empty)=true
 | 0,i,l,h,hij=>by omega
 | m+1,i,l,h,hij=>by
  unfold wC
  split
  ·rename_i he
   refine⟨_,rfl,?_⟩
   rw[Pe d (by omega),Pe d hj]at he
   exact XA hn hl h2 (by omega) hj he
  ·rename_i he
   have hne:i≠j:=by
    intro e
    subst e
    exact he (W6 _)
   exact fG hn hl h2 hj m (i+1) _ (by omega) (by omega)
theorem fH (s:ByteArray):∀(l:List AP) (k:Nat),OW s k l<((k+l.length:Nat):Int)
 | [],k=>by simp only[OW];omega
 | x :: l,k=>by
  simp only[OW]
  split
  ·simp only[List.length_cons];omega
  ·have:=fH s l (k+1)
   simp only[List.length_cons]
   omega
theorem fI (s:ByteArray):∀(l:List AP) (k:Nat) (x:AP),x∈l→Am x.1 s=true→0≤OW s k l
 | [],_,_,h,_=>by cases h
 | y :: l,k,x,h,e=>by
  simp only[OW]
  split
  ·omega
  ·rename_i hy
   rcases List.mem_cons.1 h with rfl|h
   ·exact absurd e hy
   ·exact fI s l (k+1) x h e
theorem Mc (l:List AP) (s:ByteArray):Bc l s<(l.length:Int):=by
 have:=fH s l 0
 rw[Nat.zero_add]at this
 exact this
theorem Pf {d:List AH} (h:BG d=0) {s:ByteArray} (hs:Aa (AQ d) s=true):0≤Bc (AL d) s:=by
 obtain⟨-,h2,-,hn,hl⟩:=A3 h
 obtain⟨t,ht,e⟩:=List.any_eq_true.1 hs
 obtain⟨j,hj,rfl⟩:=Ek ByteArray.empty ht
 obtain⟨u,hu,eu⟩:=fG hn hl h2 hj (AQ d).length 0 [] (by omega) (by omega)
 have hlen:(Ad d).length=(AQ d).length:=by simp[Ad]
 refine fI s (AL d) 0 (u,(Ad d).getD j []) ?_ (CE eu e)
 rw[Dj]
 refine⟨(Ad d).getD j [],XI (DA (by omega)),?_⟩
 unfold Hw
 rw[hu]
theorem Pg {d:List AH} (h:BG d=0) {x:AH} (hx:x∈d):0≤Bc (AL d) x.1:=Pf h (Ry hx)
theorem Bk {d:List AH} (h:(Bq d).2=0):BG d=0∧(A0 (Ad d)).length≤256∧(Bq d).1=AL d:=by
 unfold Bq at h ⊢
 split at h
 ·rename_i h1;exact absurd h h1
 ·rename_i h1
  split at h
  ·cases h
  ·rename_i h2
   exact⟨Classical.byContradiction h1,by omega,by rw[if_neg h1,if_neg h2]⟩
theorem fJ {d:List AH} (h:BG d=0):0<(AL d).length:=by
 obtain⟨-,-,hr,-,-⟩:=A3 h
 cases d with
 | nil=>cases hr
 | cons x d =>
  have:=Pg h (x:=x) (by simp)
  have h2:=Mc (AL (x :: d)) x.1
  omega
end
/- Functions of grammarlabref04: Supers. -/
section
attribute [local go_sem] Tq
def xL (l:List AP) (i k:Int) (m:Nat):Bool:=(m:Int)==i||(m:Int)==k||!KI l k (m:Int)||!KI l (m:Int) i
def i7 (l:List AP) (i k:Int) (n:Nat):Bool:=(List.range n).all (xL l i k)
def i8 (l:List AP) (i:Int) (k:Nat):Bool:=!((k:Int)==i||!KI l (k:Int) i)&&i7 l i (k:Int) l.length
def Lx (l:List AP) (i:Int) (n:Nat):List Int:=((List.range n).filter fun(k:Nat)=>i8 l i k).map fun(k:Nat)=>(k:Int)
def UB (l:List AP) (i:Int):List Int:=Lx l i l.length
theorem ZC (l:List AP) (i:Int) (n:Nat):Lx l i (n+1)=Lx l i n++if i8 l i n=true then [(n:Int)] else []:=by
 unfold Lx
 rw[List.range_succ,List.filter_append,List.map_append]
 congr 1
 rw[List.filter_cons,List.filter_nil]
 split<;>rfl
theorem i9 (l:List AP) (i:Int) (n:Nat):(Lx l i n).length≤n:=by
 unfold Lx
 rw[List.length_map]
 exact Nat.le_trans (List.length_filter_le _ _) (by simp)
theorem jA (l:List AP) (i k:Int) (n:Nat):i7 l i k (n+1)=(i7 l i k n&&xL l i k n):=by
 unfold i7
 rw[List.range_succ,List.all_append]
 simp
def fK:Ah:={ ins:=[JF,T3],pre:=fun(l,i,_)=>((0:Int)≤i∧i<(List.length l:Int))∧List.length l≤256∧(∀x∈(l:List AP),x.2.length≤64),out:=fun(l,i,_)=>[.p Jj (UB l i)] }
theorem uN:Ao Tryz.prog 65 fK:=by
 refine AW Tryz.func65 (by kernel_rfl) rfl Tryz.ntmps65 (by decide) (by kernel_rfl) (AF [(103,Tq)]) (AD fE AI) ?_
 rintro w0 O0 ⟨l,i,u⟩ hc-⟨hi,hl,hx⟩
 have hl:l.length≤256:=hl
 have hx2:∀x∈(l:List AP),x.2.length≤100000:=fun x h=>Nat.le_trans (hx x h) (by decide)
 simp only[fK,AM]
 repeat'(first|exact trivial|refine eS rfl ?_|refine AB ?_|refine rX [0,1,4,5,6,7,8,12,24,28,56] hc ?_ ?_|refine rC ?_ ?_<;>intro AA<;>try(cases AA;done))
 refine AJ (ι:={k:Nat//k≤l.length}) (fun k=>⟨[(0,.p JF l),(1,.p T3 i),(5,.sr 60 T3 0 (Lx l i k.1).length),(6,.p (.int .i64) (k.1:Int))],[(60,.arr 3 T3 (Lx l i k.1))]⟩) (fun k=>l.length-k.1) ⟨0,Nat.zero_le _⟩ (AC [(60,.nil)] rfl rfl ?_ ?_) (fun k=>?_)
 ·first|exact eN|refine eM ?_
  rfl
 ·first|exact eN|refine eM ?_
  rfl
 ·obtain⟨k,hk⟩:=k
  have hk:k≤l.length:=hk
  have hz:=i9 l i k
  have hs:=ZC l i k
  simp only
  repeat'(first|exact trivial|refine eS rfl ?_|refine AB ?_|refine rX [0,1,4,5,6,7,8,12,24,28,56] hc ?_ ?_|refine rC ?_ ?_<;>intro AA<;>try(cases AA;done))
  ·intro h
   exact⟨by assumption,hi,hx2⟩
  ·exact eV
  ·have hk2:k<l.length:=by exact eV
   have hb:i8 l i k=false:=by
    unfold i8
    rw[Bool.and_eq_false_iff]
    left
    rw[Bool.not_eq_false',Bool.or_eq_true,beq_iff_eq,Bool.not_eq_true']
    exact AA
   rw[hb,if_neg (by simp),List.append_nil]at hs
   refine⟨⟨k+1,by omega⟩,by simp only;omega,AC [(60,.nm 60)] rfl rfl ?_ ?_⟩
   ·simp only[hs]
    first|exact eN|refine eM ?_
   ·simp only[hs]
    first|exact eN|refine eM ?_
  ·have hk2:k<l.length:=by exact eV
   have hb:i8 l i k=i7 l i (k:Int) l.length:=by
    unfold i8
    rw[show ((k:Int)==i||!KI l (k:Int) i)=false by
     rw[Bool.or_eq_false_iff,beq_eq_false_iff_ne,Bool.not_eq_false'];exact AA]
    rfl
   refine AJ (ι:={m:Nat//m≤l.length}) (fun m=>⟨[(0,.p JF l),(1,.p T3 i),(5,.sr 60 T3 0 (Lx l i k).length),(6,.p (.int .i64) (k:Int)),(7,.p .bool (i7 l i (k:Int) m.1)),(8,.p (.int .i64) (m.1:Int))],[(60,.arr 3 T3 (Lx l i k))]⟩) (fun m=>l.length-m.1) ⟨0,Nat.zero_le _⟩ (AC [(60,.nm 60)] rfl rfl ?_ ?_) (fun m=>?_)
   ·first|exact eN|refine eM ?_
   ·first|exact eN|refine eM ?_
    rfl
   ·obtain⟨m,hm⟩:=m
    have hm:m≤l.length:=hm
    have hds:=jA l i (k:Int) m
    simp only
    repeat'(first|exact trivial|refine eS rfl ?_|refine AB ?_|refine rX [0,1,4,5,6,7,8,12,24,28,56] hc ?_ ?_|refine rC ?_ ?_<;>intro AA<;>try(cases AA;done))
    ·exact⟨fun h=>⟨by assumption,AA,hx2⟩,fun h=>⟨AA,hi,hx2⟩⟩
    ·exact eV
    ·have hm2:m<l.length:=by exact eV
     refine⟨⟨m+1,by omega⟩,by simp only;omega,AC [(60,.nm 60)] rfl rfl ?_ ?_⟩
     ·first|exact eN|refine eM ?_
     ·simp only[hds]
      unfold xL
      first|exact eN|refine eM ?_
    ·simp only[AO];dsimp only[Ty.den]at *;omega
    ·exact eV
    ·have hm2:m=l.length:=by exact eV
     subst hm2
     rw[hb,if_pos AA]at hs
     refine⟨⟨k+1,by omega⟩,by simp only;omega,AC [(60,.nm 60)] rfl rfl ?_ ?_⟩
     ·simp only[hs]
      first|exact eN|refine eM ?_
     ·simp only[hs]
      first|exact eN|refine eM ?_
    ·exact eV
    ·have hm2:m=l.length:=by exact eV
     subst hm2
     rw[hb,if_neg (by rw[AA];simp),List.append_nil]at hs
     refine⟨⟨k+1,by omega⟩,by simp only;omega,AC [(60,.nm 60)] rfl rfl ?_ ?_⟩
     ·simp only[hs]
      first|exact eN|refine eM ?_
     ·simp only[hs]
      first|exact eN|refine eM ?_
  ·have hk2:k=l.length:=by exact eV
   subst hk2
   refine HQ [60] ?_
   exact AG hc [.tmp 4] rfl (.inl rfl) (by simp) (by unfold UB;first|exact eR|refine Av ?_)
end
/- Functions of grammarlabref05: declarations. -/
section
attribute [local go_sem] Jm NF ED
abbrev FV:=ByteArray×ByteArray
abbrev uO:FV:=(ByteArray.empty,ByteArray.empty)
def kO (all:List ByteArray) (l:List FV):Nat→List FV→Int
 | _,[]=>0
 | k,x :: r=>if Ed x.1 true=false then 1 else if ((l.take k).any fun y=>Am y.1 x.1)=true then 4 else if Aa all x.2=false then 5 else kO all l (k+1) r
def VQ (all:List ByteArray):List AH→Int
 | []=>0
 | x :: l=>if kO all x.2.2 0 x.2.2≠0 then kO all x.2.2 0 x.2.2 else VQ all l
def Js (d:List AH):Int:=VQ (AQ d) d
theorem nN (all:List ByteArray) (l:List FV) {k:Nat} (h:k<l.length):kO all l k (l.drop k)=if Ed (l.getD k uO).1 true=false then 1 else if ((l.take k).any fun y=>Am y.1 (l.getD k uO).1)=true then 4 else if Aa all (l.getD k uO).2=false then 5 else kO all l (k+1) (l.drop (k+1)):=by
 rw[List.drop_eq_getElem_cons h]
 have e:l.getD k uO=l[k]:=by simp[List.getD_eq_getElem?_getD,h]
 rw[e]
 rfl
theorem jB (all:List ByteArray) (l:List AH) {k:Nat} (h:k<l.length):VQ all (l.drop k)=if kO all (l.getD k d0).2.2 0 (l.getD k d0).2.2≠0 then kO all (l.getD k d0).2.2 0 (l.getD k d0).2.2 else VQ all (l.drop (k+1)):=by
 rw[List.drop_eq_getElem_cons h]
 have e:l.getD k d0=l[k]:=by simp[List.getD_eq_getElem?_getD,h]
 rw[e]
 rfl
def VR:Ah:={ ins:=[Es],pre:=fun(d,_)=>List.length d≤256,out:=fun(d,_)=>[.p Rb (Js d)] }
theorem nP:Ao Tryz.prog 121 VR:=by
 refine AW Tryz.func121 (by kernel_rfl) rfl Tryz.ntmps121 (by decide) (by kernel_rfl) (AF [(98,Jm),(150,NF),(131,ED)]) (AD Tl (AD Yw (AD Gb AI))) ?_
 rintro w0 O0 ⟨d,u⟩ hc ⟨⟨hdl,hall⟩,-⟩ hd
 have hd:d.length≤256:=hd
 simp only[VR,AM]
 repeat'(first|exact trivial|refine eS rfl ?_|refine AB ?_|refine rX [0,2,3,4,5,6,7,13,24,33,36,49,57] hc ?_ ?_|refine rC ?_ ?_<;>intro AA<;>try(cases AA;done))
 ·exact Nat.le_trans hd (by decide)
 ·have hdf:Js d=VQ (AQ d) d:=rfl
  rw[hdf]
  generalize AQ d=all at *
  refine AJ (ι:={i:Nat//i≤d.length∧VQ all (d.drop i)=VQ all d}) (fun i=>⟨[(0,.p Es d),(3,.p Br all),(4,.p (.int .i64) (i.1:Int))],[]⟩) (fun i=>d.length-i.1) ⟨0,Nat.zero_le _,rfl⟩ (AC [] rfl rfl ?_ ?_) (fun i=>?_)
  ·first|exact eN|refine eM ?_
  ·first|exact eN|refine eM ?_
  ·obtain⟨i,hi,hf⟩:=i
   simp only
   repeat'(first|exact trivial|refine eS rfl ?_|refine AB ?_|refine rX [0,2,3,4,5,6,7,13,24,33,36,49,57] hc ?_ ?_|refine rC ?_ ?_<;>intro AA<;>try(cases AA;done))
   ·exact AA
   ·have hi2:i<d.length:=by exact eV
    rw[jB all d hi2]at hf
    have hfl:(d.getD i d0).2.2.length≤AO:=(hall _ (AE d d0 hi2)).2.2.1
    have hfe:(List.getD d i (ByteArray.empty,[],[])).2.2=(d.getD i d0).2.2:=rfl
    rw[hfe]
    generalize (d.getD i d0).2.2=l at *
    simp only[AO]at hfl
    refine AJ (ι:={k:Nat//k≤l.length∧kO all l k (l.drop k)=kO all l 0 l}) (fun k=>⟨[(0,.p Es d),(3,.p Br all),(4,.p (.int .i64) (i:Int)),(5,.p Wh l),(6,.p (.int .i64) (k.1:Int))],[]⟩) (fun k=>l.length-k.1) ⟨0,Nat.zero_le _,rfl⟩ (AC [] rfl rfl ?_ ?_) (fun k=>?_)
    ·first|exact eN|refine eM ?_
    ·first|exact eN|refine eM ?_
    ·obtain⟨k,hk,hg⟩:=k
     have hstep:=fun h:k<l.length=>nN all l h
     simp only
     repeat'(first|exact trivial|refine eS rfl ?_|refine AB ?_|refine rX [0,2,3,4,5,6,7,13,24,33,36,49,57] hc ?_ ?_|refine rC ?_ ?_<;>intro AA<;>try(cases AA;done))
     ·exact AA
     ·have hk2:k<l.length:=by exact eV
      rw[hstep hk2,if_pos AA]at hg
      rw[←hg,if_pos (by decide)]at hf
      exact AG hc [.tmp 2] rfl (.inl rfl) (by simp) (by rw[←hf];first|exact eR|refine Av ?_)
     ·have hk2:k<l.length:=by exact eV
      have hkI:(k:Int)<(l.length:Int):=Int.ofNat_lt.2 hk2
      rw[hstep hk2,if_neg (by rw[AA];simp)]at hg
      refine AJ (ι:={m:Nat//m≤k∧((l.take m).any fun y=>Am y.1 (l.getD k uO).1)=false}) (fun m=>⟨[(0,.p Es d),(3,.p Br all),(4,.p (.int .i64) (i:Int)),(5,.p Wh l),(6,.p (.int .i64) (k:Int)),(7,.p (.int .i64) (m.1:Int))],[]⟩) (fun m=>k-m.1) ⟨0,Nat.zero_le _,rfl⟩ (AC [] rfl rfl ?_ ?_) (fun m=>?_)
      ·first|exact eN|refine eM ?_
      ·first|exact eN|refine eM ?_
      ·obtain⟨m,hm,hany⟩:=m
       have hstep2:=fun h:m<l.length=>LQ l uO (fun y=>Am y.1 (l.getD k uO).1) h
       simp only
       repeat'(first|exact trivial|refine eS rfl ?_|refine AB ?_|refine rX [0,2,3,4,5,6,7,13,24,33,36,49,57] hc ?_ ?_|refine rC ?_ ?_<;>intro AA<;>try(cases AA;done))
       ·have h1:(m:Int)<(k:Int):=AA
        exact⟨by exact eV,hkI⟩
       ·have hm2:m<k:=Int.ofNat_lt.1 (by assumption)
        have h2:=hstep2 (by omega)
        have h3:((l.take k).any fun y=>Am y.1 (l.getD k uO).1)=true:=by
         rw[List.any_eq_true]
         exact⟨l.getD m uO,by
          rw[List.mem_take_iff_getElem]
          refine⟨m,by omega,?_⟩
          simp[List.getD_eq_getElem?_getD,show m<l.length by omega],AA⟩
        rw[if_pos h3]at hg
        rw[←hg,if_pos (by decide)]at hf
        exact AG hc [.tmp 2] rfl (.inl rfl) (by simp) (by rw[←hf];first|exact eR|refine Av ?_)
       ·omega
       ·have hm2:m<k:=Int.ofNat_lt.1 (by assumption)
        have h2:=hstep2 (by omega)
        refine⟨⟨m+1,by omega,?_⟩,by simp only;omega,AC [] rfl rfl ?_ ?_⟩
        ·rw[h2,hany]
         exact AA
        ·first|exact eN|refine eM ?_
        ·first|exact eN|refine eM ?_
       ·exact hkI
       ·have hm2:m=k:=by omega
        subst hm2
        rw[if_neg (by rw[hany];simp),if_pos AA]at hg
        rw[←hg,if_pos (by decide)]at hf
        exact AG hc [.tmp 2] rfl (.inl rfl) (by simp) (by rw[←hf];first|exact eR|refine Av ?_)
       ·have:=hdl
        simp only[AO]at this
        omega
       ·have hm2:m=k:=by omega
        subst hm2
        rw[if_neg (by rw[hany];simp),if_neg (by rw[AA];simp)]at hg
        refine⟨⟨m+1,by omega,hg⟩,by simp only;omega,AC [] rfl rfl ?_ ?_⟩
        ·first|exact eN|refine eM ?_
        ·first|exact eN|refine eM ?_
     ·omega
     ·have hk2:l.drop k=[]:=List.drop_eq_nil_of_le (Int.ofNat_le.1 AA)
      rw[hk2]at hg
      rw[←hg,if_neg (by simp[kO])]at hf
      refine⟨⟨i+1,by omega,hf⟩,by simp only;omega,AC [] rfl rfl ?_ ?_⟩
      ·first|exact eN|refine eM ?_
      ·first|exact eN|refine eM ?_
   ·have hk2:d.drop i=[]:=List.drop_eq_nil_of_le (by exact eV)
    rw[hk2]at hf
    exact AG hc [.tmp 2] rfl (.inl rfl) (by simp) (by rw[←hf];first|exact eR|refine Av ?_;rfl)
end
/- Functions of grammarlabref05: intro. -/
section
attribute [local go_sem] OX MO Ht cs0
def Ly (s:ByteArray) (o:List ByteArray) (x:AH):List ByteArray:=if (DH x s).2=true then EE o x.1 else o
def Gw (d:List AH) (s:ByteArray):List ByteArray:=d.foldl (Ly s) []
theorem ZD (s:ByteArray) (d:List AH) (k:Nat):(Gw (d.take k) s).length≤k:=by
 have key:∀(l:List AH) (o:List ByteArray),(l.foldl (Ly s) o).length≤o.length+l.length:=by
  intro l
  induction l with
  | nil=>intro o;simp
  | cons x l ih =>
   intro o
   have h1:=ih (Ly s o x)
   have h2:(Ly s o x).length≤o.length+1:=by
    unfold Ly
    split
    ·exact Ks o x.1
    ·omega
   simp only[List.foldl_cons,List.length_cons]
   omega
 have h1:=key (d.take k) []
 have h2:=List.length_take_le k d
 unfold Gw
 simp only[List.length_nil]at h1
 omega
def Dk (d:List AH) (s:ByteArray):ByteArray×Bool:=if (Bj d (Gw d s)).length=1 then ((Bj d (Gw d s)).getD 0 ByteArray.empty,true) else (ByteArray.empty,false)
def Oc:Ah:={ ins:=[Es,T9],pre:=fun(d,_,_)=>Rm d∧List.length d≤256,out:=fun(d,s,_)=>[.p T9 (Dk d s).1,.p .bool (Dk d s).2] }
theorem XJ:Ao Tryz.prog 104 Oc:=by
 refine AW Tryz.func104 (by kernel_rfl) rfl Tryz.ntmps104 (by decide) (by kernel_rfl) (AF [(123,OX),(122,MO),(136,Ht)]) (AD Wv (AD OP (AD Rq AI))) ?_
 rintro w0 O0 ⟨d,s,u⟩ hc-⟨hsup,hd⟩
 have hd:d.length≤256:=hd
 simp only[Oc,AM]
 repeat'(first|exact trivial|refine eS rfl ?_|refine AB ?_|refine rX [0,1,4,5,6,7,9,10,14,26,39] hc ?_ ?_|refine rC ?_ ?_<;>intro AA<;>try(cases AA;done))
 refine AJ (ι:={i:Nat//i≤d.length}) (fun i=>⟨[(0,.p Es d),(1,.p T9 s),(6,.p Br (Gw (d.take i.1) s)),(7,.p (.int .i64) (i.1:Int))],[]⟩) (fun i=>d.length-i.1) ⟨0,Nat.zero_le _⟩ (AC [] rfl rfl ?_ ?_) (fun i=>?_)
 ·first|exact eN|refine eM ?_
 ·first|exact eN|refine eM ?_
  rfl
 ·obtain⟨i,hi⟩:=i
  have hi:i≤d.length:=hi
  have hn:=ZD s d i
  have hs:=fun h:i<d.length=>Ea (Ly s) d d0 [] h
  have hfe:∀e,Gw e s=e.foldl (Ly s) []:=fun _=>rfl
  rw[←hfe,←hfe]at hs
  unfold Ly at hs
  simp only
  repeat'(first|exact trivial|refine eS rfl ?_|refine AB ?_|refine rX [0,1,4,5,6,7,9,10,14,26,39] hc ?_ ?_|refine rC ?_ ?_<;>intro AA<;>try(cases AA;done))
  ·exact AA
  ·exact⟨by assumption,by omega⟩
  ·exact eV
  ·have hi2:i<d.length:=by exact eV
   have e:=hs hi2
   rw[if_pos AA]at e
   refine⟨⟨i+1,by omega⟩,by simp only;omega,AC [] rfl rfl ?_ ?_⟩
   ·first|exact eN|refine eM ?_
   ·simp only[e]
    first|exact eN|refine eM ?_
  ·exact eV
  ·have hi2:i<d.length:=by exact eV
   have e:=hs hi2
   rw[if_neg (by rw[AA];simp)]at e
   refine⟨⟨i+1,by omega⟩,by simp only;omega,AC [] rfl rfl ?_ ?_⟩
   ·first|exact eN|refine eM ?_
   ·simp only[e]
    first|exact eN|refine eM ?_
  ·exact⟨hsup,hd,by omega⟩
  ·have hi2:d.take i=d:=List.take_of_length_le (by exact eV)
   rw[hi2]at AA ⊢
   have h1:Dk d s=(ByteArray.empty,false):=by
    unfold Dk
    rw[if_neg (by omega)]
   exact AG hc [.tmp 4,.tmp 5] rfl (.inl rfl) (by simp) (by rw[h1];first|exact eR|refine Av ?_;first|rfl|exact⟨rfl,rfl⟩)
  ·have h2:((Bj d (Gw (d.take i) s)).length:Int)=1:=by simpa using AA
   have h3:(0:Int)<((Bj d (Gw (d.take i) s)).length:Int):=by rw[h2];decide
   exact h3
  ·have hi2:d.take i=d:=List.take_of_length_le (by exact eV)
   rw[hi2]at AA ⊢
   have h2:((Bj d (Gw d s)).length:Int)=1:=by simpa using AA
   have h1:Dk d s=((Bj d (Gw d s)).getD 0 ByteArray.empty,true):=by
    unfold Dk
    rw[if_pos (by omega)]
   exact AG hc [.tmp 4,.tmp 5] rfl (.inl rfl) (by simp) (by rw[h1];first|exact eR|refine Av ?_)
end
/- Functions of grammarlabref05: inherited. -/
section
attribute [local go_sem] OX LT Tq Yy
def JI (l:List AP) (t:Int) (s:ByteArray) (o:List Int×Bool) (x:AH):List Int×Bool :=
 if (!(DH x s).2||!KI l (Bc l x.1) t)=true then o else (EY o.1 (l.getD (Bc l (DH x s).1).toNat c0).2,true)
def JJ (d:List AH) (l:List AP) (t:Int) (s:ByteArray):List Int×Bool:=d.foldl (JI l t s) ((l.getD 0 c0).2,false)
def ZE (d:List AH) (l:List AP):Prop:=(∀x∈d,0≤Bc l x.1)∧∀x∈d,∀y∈x.2.2,0≤Bc l y.2
theorem XK (s:ByteArray):∀(l:List (ByteArray×ByteArray)),(Wu s l).2=true→∃y∈l,y.2=(Wu s l).1
 | [],h=>by cases h
 | x :: l,h=>by
  simp only[Wu]at h ⊢
  split at h
  ·rename_i h1
   rw[if_pos h1]
   exact⟨x,by simp,rfl⟩
  ·rename_i h1
   rw[if_neg h1]
   obtain⟨y,hy,e⟩:=XK s l h
   exact⟨y,by simp[hy],e⟩
theorem ZE.value {d:List AH} {l:List AP} (h:ZE d l) {x:AH} (hx:x∈d) {s:ByteArray} (hv:(DH x s).2=true):0≤Bc l (DH x s).1:=by
 obtain⟨y,hy,e⟩:=XK s x.2.2 hv
 have:=h.2 x hx y hy
 rw[e]at this
 exact this
theorem nQ {l:List AP} (t:Int) (s:ByteArray) (x:AH) {o:List Int×Bool} (h:o.1.length≤64):(JI l t s o x).1.length≤64:=by
 unfold JI
 split
 ·exact h
 ·exact Nat.le_trans (Ww _ _) h
theorem R3 {l:List AP} (t:Int) (s:ByteArray):∀(d:List AH) {o:List Int×Bool},o.1.length≤64→(d.foldl (JI l t s) o).1.length≤64
 | [],_,h=>h
 | x :: d,_,h=>by rw[List.foldl_cons];exact R3 t s d (nQ t s x h)
theorem XL (s:ByteArray):∀(l:List AP) (k:Nat),OW s k l<((k+l.length:Nat):Int)
 | [],k=>by simp only[OW];omega
 | x :: l,k=>by
  simp only[OW]
  split
  ·simp only[List.length_cons];omega
  ·have:=XL s l (k+1)
   simp only[List.length_cons]
   omega
theorem Ph (l:List AP) (s:ByteArray):Bc l s<(l.length:Int):=by
 have:=XL s l 0
 rw[Nat.zero_add]at this
 exact this
def jC:Ah:={ ins:=[Es,JF,T3,T9],pre:=fun(d,l,t,_,_)=>ZE d l∧((0:Int)≤t∧t<(List.length l:Int))∧List.length l≤256∧(∀x∈(l:List AP),x.2.length≤64),out:=fun(d,l,t,s,_)=>[.p EC (JJ d l t s).1,.p .bool (JJ d l t s).2] }
theorem nR:Ao Tryz.prog 95 jC:=by
 refine AW Tryz.func95 (by kernel_rfl) rfl Tryz.ntmps95 (by decide) (by kernel_rfl) (AF [(123,OX),(105,LT),(103,Tq),(112,Yy)]) (AD Wv (AD Ts (AD fE (AD m5 AI)))) ?_
 rintro w0 O0 ⟨d,l,t,s,u⟩ hc ⟨⟨hdl,hall⟩,-⟩ ⟨hnum,ht,hl,hx⟩
 have hl:l.length≤256:=hl
 have hx2:∀x∈(l:List AP),x.2.length≤100000:=fun x h=>Nat.le_trans (hx x h) (by decide)
 have hlp:0<List.length l:=Int.ofNat_lt.1 (Int.lt_of_le_of_lt ht.1 ht.2)
 simp only[AO]at hdl
 simp only[jC,AM]
 repeat'(first|exact trivial|refine eS rfl ?_|refine AB ?_|refine rX [0,1,2,3,8,9,10,11,12,13,14,22,48] hc ?_ ?_|refine rC ?_ ?_<;>intro AA<;>try(cases AA;done))
 ·exact Int.ofNat_lt.2 hlp
 ·have hif:JJ d l t s=d.foldl (JI l t s) ((l.getD 0 c0).2,false):=rfl
  have hc0:(l.getD 0 c0).2.length≤64:=hx _ (AE l c0 hlp)
  have hc1:(List.getD l 0 (ByteArray.empty,[])).2=(l.getD 0 c0).2:=rfl
  rw[hc1]
  generalize (l.getD 0 c0).2=b0 at *
  refine AJ (ι:={i:Nat//i≤d.length}) (fun i=>⟨[(0,.p Es d),(1,.p JF l),(2,.p T3 t),(3,.p T9 s),(10,.p .bool ((d.take i.1).foldl (JI l t s) (b0,false)).2),(11,.p EC ((d.take i.1).foldl (JI l t s) (b0,false)).1),(12,.p (.int .i64) (i.1:Int))],[]⟩) (fun i=>d.length-i.1) ⟨0,Nat.zero_le _⟩ (AC [] rfl rfl ?_ ?_) (fun i=>?_)
  ·first|exact eN|refine eM ?_
  ·first|exact eN|refine eM ?_
   exact⟨rfl,rfl⟩
  ·obtain⟨i,hi⟩:=i
   have hi:i≤d.length:=hi
   have hlen:=R3 (l:=l) t s (d.take i) (o:=(b0,false)) hc0
   have hs:=fun h:i<d.length=>Ea (JI l t s) d d0 (b0,false) h
   have hnx:=fun h:i<d.length=>hnum.1 _ (AE d d0 h)
   have hnv:=fun(h:i<d.length) (g:(DH (d.getD i d0) s).2=true)=>hnum.value (AE d d0 h) g
   have hia:∀o x,JI l t s o x=(if (!(DH x s).2||!KI l (Bc l x.1) t)=true then o else (EY o.1 (l.getD (Bc l (DH x s).1).toNat c0).2,true)):=fun _ _=>rfl
   generalize ho:(d.take i).foldl (JI l t s) (b0,false)=o at *
   simp only
   repeat'(first|exact trivial|refine eS rfl ?_|refine AB ?_|refine rX [0,1,2,3,8,9,10,11,12,13,14,22,48] hc ?_ ?_|refine rC ?_ ?_<;>intro AA<;>try(cases AA;done))
   ·exact AA
   ·have hi2:i<d.length:=Int.ofNat_lt.1 AA
    exact⟨fun _=>AA,fun _=>⟨⟨hnx hi2,Ph _ _⟩,ht,hx2⟩⟩
   ·exact eV
   ·have hi2:i<d.length:=Int.ofNat_lt.1 (by assumption)
    have e:=hs hi2
    rw[hia,if_pos (by rw[Bool.or_eq_true,Bool.not_eq_true',Bool.not_eq_true'];exact AA)]at e
    refine⟨⟨i+1,by omega⟩,by simp only;omega,AC [] rfl rfl ?_ ?_⟩
    ·first|exact eN|refine eM ?_
    ·first|exact eN|refine eM ?_
     rw[e]
     exact⟨rfl,rfl⟩
   ·have hi2:i<d.length:=Int.ofNat_lt.1 (by assumption)
    exact⟨⟨hnv hi2 AA.1,Ph _ _⟩,Nat.le_trans hlen (by decide)⟩
   ·exact eV
   ·have hi2:i<d.length:=Int.ofNat_lt.1 (by assumption)
    have e:=hs hi2
    have hneg:¬(!(DH (d.getD i d0) s).2||!KI l (Bc l (d.getD i d0).1) t)=true:=by
     rw[Bool.or_eq_true,Bool.not_eq_true',Bool.not_eq_true']
     rintro (h|h)
     ·rw[show (DH (d.getD i d0) s).2=true from AA.1]at h;cases h
     ·rw[show KI l (Bc l (d.getD i d0).1) t=true from AA.2]at h;cases h
    rw[hia,if_neg hneg]at e
    refine⟨⟨i+1,by omega⟩,by simp only;omega,AC [] rfl rfl ?_ ?_⟩
    ·first|exact eN|refine eM ?_
    ·first|exact eN|refine eM ?_
     rw[e]
     exact⟨rfl,rfl⟩
   ·have hi2:d.take i=d:=List.take_of_length_le (Int.ofNat_le.1 AA)
    rw[hi2]at ho
    rw[ho]at hif
    exact AG hc [.tmp 8,.tmp 9] rfl (.inl rfl) (by simp) (by rw[hif];first|exact eR|refine Av ?_)
end
/- Plain: what passes grammarlabref04.Codes and the checks of grammarlabref05. -/
section
theorem Pi:∀ {l:List AH},Kq l=0→∀x∈l,x.2.1.length≤256∧x.2.2.length≤256
 | [],_,x,hx=>by cases hx
 | y :: l,h,x,hx=>by
  simp only[Kq]at h
  split at h
  ·cases h
  ·rename_i h1
   rcases List.mem_cons.1 hx with rfl|hx
   ·exact⟨by omega,by omega⟩
   ·exact Pi h x hx
theorem Jt {d:List AH} (h:BG d=0):∀x∈d,x.2.1.length≤256∧x.2.2.length≤256:=by
 have h1:Ee d=0:=by
  unfold BG at h
  split at h
  ·rename_i h1;exact absurd h h1
  ·rename_i h1;exact Classical.byContradiction h1
 unfold Ee at h1
 split at h1
 ·cases h1
 ·exact Pi h1
theorem Md {d:List AH} (h:BG d=0):∀x∈AL d,x.2.length≤64:=by
 intro x hx
 obtain⟨-,h2,-⟩:=A3 h
 obtain⟨b,hb,rfl⟩:=Dj.1 hx
 exact NU (Mb h2) b hb
theorem XM {all:List ByteArray} {l:List FV}:∀ {r:List FV} {k:Nat},kO all l k r=0→∀y∈r,Aa all y.2=true
 | [],_,_,y,hy=>by cases hy
 | x :: r,k,h,y,hy=>by
  simp only[kO]at h
  split at h
  ·cases h
  ·split at h
   ·cases h
   ·split at h
    ·cases h
    ·rename_i h3
     rcases List.mem_cons.1 hy with rfl|hy
     ·simpa using h3
     ·exact XM h y hy
theorem UC {all:List ByteArray}:∀ {l:List AH},VQ all l=0→∀x∈l,∀y∈x.2.2,Aa all y.2=true
 | [],_,x,hx=>by cases hx
 | z :: l,h,x,hx=>by
  simp only[VQ]at h
  split at h
  ·rename_i h1;exact absurd h h1
  ·rename_i h1
   rcases List.mem_cons.1 hx with rfl|hx
   ·exact XM (Classical.byContradiction h1)
   ·exact UC h x hx
theorem Qc {d:List AH} (h:BG d=0) (h2:Js d=0):ZE d (AL d) :=
 ⟨fun x hx=>Pg h hx,fun x hx y hy=>Pf h (UC h2 x hx y hy)⟩
end
/- Functions of grammarlabref05: Check. -/
section
attribute [local go_sem] Iq Kw VR Oc jC
def Ju (d:List AH) (l:List AP) (t:Nat) (s:ByteArray):Bool:=(JJ d l (t:Int) s).2&&((JJ d l (t:Int) s).1.length:Int)==0
def VS (d:List AH) (l:List AP) (f:List ByteArray) (t:Nat):Bool:=f.any (Ju d l t)
def Hx (d:List AH) (l:List AP) (f:List ByteArray) (n:Nat):Bool:=(List.range n).any (VS d l f)
theorem XN (d:List AH) (l:List AP) (f:List ByteArray) (n:Nat):Hx d l f (n+1)=(Hx d l f n||VS d l f n):=by
 unfold Hx
 rw[List.range_succ,List.any_append]
 simp
def Ax (d:List AH):Int :=
 if (Bq d).2≠0 then (Bq d).2 else if 64<(CF d).length then 7 else if Js d≠0 then Js d else
 if ((CF d).all fun s=>(Dk d s).2)=false then 10 else if Hx d (Bq d).1 (CF d) (Bq d).1.length=true then 11 else 0
def LY:Ah:={ ins:=[Es],pre:=fun _=>True,out:=fun(d,_)=>[.p Rb (Ax d)] }
theorem UD:Ao Tryz.prog 93 LY:=by
 refine AW Tryz.func93 (by kernel_rfl) rfl Tryz.ntmps93 (by decide) (by kernel_rfl) (AF [(64,Iq),(94,Kw),(121,VR),(104,Oc),(95,jC)]) (AD NV (AD Rs (AD nP (AD XJ (AD nR AI))))) ?_
 rintro w0 O0 ⟨d,u⟩ hc - -
 simp only[LY,AM]
 repeat'(first|exact trivial|refine eS rfl ?_|refine AB ?_|refine rX [0,2,3,4,5,6,7,9,10,11,12,13,20,26,30,35,48,52,58,77] hc ?_ ?_|refine rC ?_ ?_<;>intro AA<;>try(cases AA;done))
 ·have h1:Ax d=(Bq d).2:=by unfold Ax;rw[if_pos AA]
  exact AG hc [.tmp 2] rfl (.inl rfl) (by simp) (by rw[h1];first|exact eR|refine Av ?_)
 ·have hz:(Bq d).2=0:=by simpa using AA
  obtain⟨h3,-,-⟩:=Bk hz
  obtain⟨-,hd,-⟩:=A3 h3
  exact⟨hd,fun x hx=>(Jt h3 x hx).2⟩
 ·have hz:(Bq d).2=0:=by simpa using ‹((Bq d).2 != 0)=false›
  have h1:Ax d=7:=by
   unfold Ax
   rw[if_neg (by rw[hz];simp),if_pos (by omega)]
  exact AG hc [.tmp 2] rfl (.inl rfl) (by simp) (by rw[h1];first|exact eR|refine Av ?_)
 ·have hz:(Bq d).2=0:=by simpa using ‹((Bq d).2 != 0)=false›
  obtain⟨h3,-,-⟩:=Bk hz
  exact(A3 h3).2.1
 ·have hz:(Bq d).2=0:=by simpa using ‹((Bq d).2 != 0)=false›
  have h1:Ax d=Js d:=by
   unfold Ax
   rw[if_neg (by rw[hz];simp),if_neg (by omega),if_pos AA]
  exact AG hc [.tmp 2] rfl (.inl rfl) (by simp) (by rw[h1];first|exact eR|refine Av ?_)
 ·have hz:(Bq d).2=0:=by simpa using ‹((Bq d).2 != 0)=false›
  have hdz:Js d=0:=by simpa using AA
  obtain⟨h3,hlen,hl⟩:=Bk hz
  obtain⟨hsup,hd,-⟩:=A3 h3
  have hnr:=Qc h3 hdz
  have hwid:=Md h3
  have hpos:=fJ h3
  have hll:(AL d).length≤256:=by rw[Jr];exact hlen
  have hc5:Ax d=if ((CF d).all fun s=>(Dk d s).2)=false then 10 else if Hx d (Bq d).1 (CF d) (Bq d).1.length=true then 11 else 0:=by
   unfold Ax
   rw[if_neg (by rw[hz];simp),if_neg (by omega),if_neg (by rw[hdz];simp)]
  rw[hl]at hc5 ⊢
  generalize AL d=l at *
  generalize CF d=f at *
  refine AJ (ι:={i:Nat//i≤f.length∧((f.take i).all fun s=>(Dk d s).2)=true}) (fun i=>⟨[(0,.p Es d),(3,.p JF l),(5,.p Br f),(7,.p (.int .i64) (i.1:Int))],[]⟩) (fun i=>f.length-i.1) ⟨0,Nat.zero_le _,rfl⟩ (AC [] rfl rfl ?_ ?_) (fun i=>?_)
  ·first|exact eN|refine eM ?_
  ·first|exact eN|refine eM ?_
  ·obtain⟨i,hi,hall⟩:=i
   have hstep:=fun h:i<f.length=>GG f ByteArray.empty (fun s=>(Dk d s).2) h
   simp only
   repeat'(first|exact trivial|refine eS rfl ?_|refine AB ?_|refine rX [0,2,3,4,5,6,7,9,10,11,12,13,20,26,30,35,48,52,58,77] hc ?_ ?_|refine rC ?_ ?_<;>intro AA<;>try(cases AA;done))
   ·exact⟨AA,hsup,hd⟩
   ·have hi2:i<f.length:=Int.ofNat_lt.1 (by assumption)
    have h2:(f.all fun s=>(Dk d s).2)=false:=by
     rw[Bool.eq_false_iff]
     intro h
     have:=List.all_eq_true.1 h _ (AE f ByteArray.empty hi2)
     rw[show (Dk d (f.getD i ByteArray.empty)).2=false from AA]at this
     cases this
    rw[if_pos h2]at hc5
    exact AG hc [.tmp 2] rfl (.inl rfl) (by simp) (by rw[hc5];first|exact eR|refine Av ?_)
   ·omega
   ·have hi2:i<f.length:=Int.ofNat_lt.1 (by assumption)
    refine⟨⟨i+1,hi2,?_⟩,by simp only;omega,AC [] rfl rfl ?_ ?_⟩
    ·rw[hstep hi2,hall]
     exact AA
    ·first|exact eN|refine eM ?_
    ·first|exact eN|refine eM ?_
   ·have hi2:f.take i=f:=List.take_of_length_le (Int.ofNat_le.1 AA)
    rw[hi2]at hall
    rw[if_neg (by rw[hall];simp)]at hc5
    refine AJ (ι:={t:Nat//t≤l.length∧Hx d l f t=false}) (fun t=>⟨[(0,.p Es d),(3,.p JF l),(5,.p Br f),(10,.p (.int .i64) (t.1:Int))],[]⟩) (fun t=>l.length-t.1) ⟨0,Nat.zero_le _,rfl⟩ (AC [] rfl rfl ?_ ?_) (fun t=>?_)
    ·first|exact eN|refine eM ?_
    ·first|exact eN|refine eM ?_
    ·obtain⟨t,ht,hvb⟩:=t
     have hvs:=XN d l f t
     simp only
     repeat'(first|exact trivial|refine eS rfl ?_|refine AB ?_|refine rX [0,2,3,4,5,6,7,9,10,11,12,13,20,26,30,35,48,52,58,77] hc ?_ ?_|refine rC ?_ ?_<;>intro AA<;>try(cases AA;done))
     ·have htl:t<l.length:=Int.ofNat_lt.1 AA
      refine AJ (ι:={k:Nat//k≤f.length∧(f.take k).any (Ju d l t)=false}) (fun k=>⟨[(0,.p Es d),(3,.p JF l),(5,.p Br f),(10,.p (.int .i64) (t:Int)),(11,.p (.int .i64) (k.1:Int))],[]⟩) (fun k=>f.length-k.1) ⟨0,Nat.zero_le _,rfl⟩ (AC [] rfl rfl ?_ ?_) (fun k=>?_)
      ·first|exact eN|refine eM ?_
      ·first|exact eN|refine eM ?_
      ·obtain⟨k,hk,hany⟩:=k
       have hst:=fun h:k<f.length=>LQ f ByteArray.empty (Ju d l t) h
       simp only
       repeat'(first|exact trivial|refine eS rfl ?_|refine AB ?_|refine rX [0,2,3,4,5,6,7,9,10,11,12,13,20,26,30,35,48,52,58,77] hc ?_ ?_|refine rC ?_ ?_<;>intro AA<;>try(cases AA;done))
       ·exact⟨AA,hnr,by assumption,hll,hwid⟩
       ·have hk2:k<f.length:=Int.ofNat_lt.1 (by assumption)
        have hb:Ju d l t (f.getD k ByteArray.empty)=true:=by
         unfold Ju
         rw[Bool.and_eq_true,beq_iff_eq]
         exact AA
        have hB:Hx d l f l.length=true:=by
         unfold Hx
         rw[List.any_eq_true]
         exact⟨t,List.mem_range.2 htl,Ga f ByteArray.empty _ hk2 hb⟩
        rw[if_pos hB]at hc5
        exact AG hc [.tmp 2] rfl (.inl rfl) (by simp) (by rw[hc5];first|exact eR|refine Av ?_)
       ·omega
       ·have hk2:k<f.length:=Int.ofNat_lt.1 (by assumption)
        have hb:Ju d l t (f.getD k ByteArray.empty)=false:=by
         rw[Bool.eq_false_iff]
         unfold Ju
         intro h
         rw[Bool.and_eq_true,beq_iff_eq]at h
         exact AA h.1 h.2
        refine⟨⟨k+1,hk2,?_⟩,by simp only;omega,AC [] rfl rfl ?_ ?_⟩
        ·rw[hst hk2,hany,hb]
         rfl
        ·first|exact eN|refine eM ?_
        ·first|exact eN|refine eM ?_
       ·omega
       ·have hk2:f.take k=f:=List.take_of_length_le (Int.ofNat_le.1 AA)
        rw[hk2]at hany
        refine⟨⟨t+1,htl,?_⟩,by simp only;omega,AC [] rfl rfl ?_ ?_⟩
        ·rw[hvs,hvb]
         exact hany
        ·first|exact eN|refine eM ?_
        ·first|exact eN|refine eM ?_
     ·have ht2:t=l.length:=by exact eV
      subst ht2
      rw[if_neg (by rw[hvb];simp)]at hc5
      exact AG hc [.tmp 2] rfl (.inl rfl) (by simp) (by rw[hc5];first|exact eR|refine Av ?_)
end
/- Functions of grammarlabref05: Features. -/
section
attribute [local go_sem] LY Iq Kw Oc LT
abbrev nS:=ByteArray×Int
theorem CY {d:List AH} (h:Ax d=0):(Bq d).2=0∧(CF d).length≤64∧Js d=0:=by
 unfold Ax at h
 split at h
 ·rename_i h1;exact absurd h h1
 ·rename_i h1
  split at h
  ·cases h
  ·rename_i h2
   split at h
   ·rename_i h3;exact absurd h h3
   ·rename_i h3
    exact⟨Classical.byContradiction h1,by omega,Classical.byContradiction h3⟩
def R4 (d:List AH) (s:ByteArray):nS:=(s,Bc (AL d) (Dk d s).1)
def FF (d:List AH):List nS×Int:=if Ax d≠0 then ([],Ax d) else ((CF d).map (R4 d),0)
theorem Sz {α β:Type} (f:α→β) (l:List α) (d:α) {k:Nat} (h:k<l.length):(l.take (k+1)).map f=(l.take k).map f++[f (l.getD k d)]:=by
 rw[Au l d h,List.map_append]
 rfl
theorem VT {α β:Type} (f:α→β) (l:List α) {k:Nat} (h:k≤l.length):((l.take k).map f).length=k:=by simp[h]
def LZ:Ah:={ ins:=[Es],pre:=fun _=>True,out:=fun(d,_)=>[.p Vp (FF d).1,.p Rb (FF d).2] }
theorem XO:Ao Tryz.prog 66 LZ:=by
 refine AW Tryz.func66 (by kernel_rfl) rfl Tryz.ntmps66 (by decide) (by kernel_rfl) (AF [(93,LY),(64,Iq),(94,Kw),(104,Oc),(105,LT)]) (AD UD (AD NV (AD Rs (AD XJ (AD Ts AI))))) ?_
 rintro w0 O0 ⟨d,u⟩ hc - -
 simp only[LZ,AM]
 repeat'(first|exact trivial|refine eS rfl ?_|refine AB ?_|refine rX [0,2,3,4,5,7,8,9,10,15,27] hc ?_ ?_|refine rC ?_ ?_<;>intro AA<;>try(cases AA;done))
 ·have h1:FF d=([],Ax d):=by unfold FF;rw[if_pos AA]
  exact AG hc [.tmp 2,.tmp 3] rfl (.inl rfl) (by simp) (by rw[h1];first|exact eR|refine Av ?_)
 ·have h5:Ax d=0:=by simpa using AA
  obtain⟨hz,-,-⟩:=CY h5
  obtain⟨h3,-,-⟩:=Bk hz
  exact⟨(A3 h3).2.1,fun x hx=>(Jt h3 x hx).2⟩
 ·have h5:Ax d=0:=by simpa using AA
  obtain⟨hz,hf64,-⟩:=CY h5
  obtain⟨h3,-,hl⟩:=Bk hz
  obtain⟨hsup,hd,-⟩:=A3 h3
  have hr:FF d=((CF d).map (R4 d),0):=by unfold FF;rw[if_neg (by rw[h5];simp)]
  rw[hl]
  generalize CF d=f at *
  refine AJ (ι:={i:Nat//i≤f.length}) (fun i=>⟨[(0,.p Es d),(5,.p JF (AL d)),(7,.p Br f),(8,.sr 49 mP 0 ((f.take i.1).map (R4 d)).length),(9,.p (.int .i64) (i.1:Int))],[(49,.arr 116 mP ((f.take i.1).map (R4 d)))]⟩) (fun i=>f.length-i.1) ⟨0,Nat.zero_le _⟩ (AC [(49,.nil)] rfl rfl ?_ ?_) (fun i=>?_)
  ·first|exact eN|refine eM ?_
  ·first|exact eN|refine eM ?_
  ·obtain⟨i,hi⟩:=i
   have hlen:=VT (R4 d) f hi
   have hs:=fun h:i<f.length=>Sz (R4 d) f ByteArray.empty h
   simp only
   repeat'(first|exact trivial|refine eS rfl ?_|refine AB ?_|refine rX [0,2,3,4,5,7,8,9,10,15,27] hc ?_ ?_|refine rC ?_ ?_<;>intro AA<;>try(cases AA;done))
   ·exact⟨AA,hsup,hd⟩
   ·refine⟨AA,?_⟩
    rw[hlen]
    simp only[AO]
    omega
   ·omega
   ·have hi2:i<f.length:=Int.ofNat_lt.1 AA
    have e:=hs hi2
    refine⟨⟨i+1,hi2⟩,by simp only;omega,AC [(49,.nm 49)] rfl rfl ?_ ?_⟩
    ·simp only[e]
     first|exact eN|refine eM ?_
     rfl
    ·simp only[e]
     first|exact eN|refine eM ?_
   ·have hi2:f.take i=f:=List.take_of_length_le (Int.ofNat_le.1 AA)
    rw[hi2]
    refine HQ [49] ?_
    exact AG hc [.tmp 2,.tmp 3] rfl (.inl rfl) (by simp) (by rw[hr];first|exact eR|refine Av ?_)
end
/- Functions of grammarlabref05: Values. -/
section
attribute [local go_sem] LY Iq Kw jC VM
def R5 (d:List AH) (l:List AP) (f:List ByteArray) (t:Nat) (n:Nat):List (Int×Int) :=
 ((List.range n).filter fun(i:Nat)=>(JJ d l (t:Int) (f.getD i ByteArray.empty)).2).map fun(i:Nat)=>((i:Int),Jp l (JJ d l (t:Int) (f.getD i ByteArray.empty)).1)
def JK (d:List AH) (l:List AP) (f:List ByteArray) (n:Nat):List (List (Int×Int)):=(List.range n).map fun t=>R5 d l f t f.length
def A8 (d:List AH):List (List (Int×Int))×Int:=if Ax d≠0 then ([],Ax d) else (JK d (AL d) (CF d) (AL d).length,0)
theorem jD (d:List AH) (l:List AP) (f:List ByteArray) (t n:Nat):R5 d l f t (n+1)=R5 d l f t n++if (JJ d l (t:Int) (f.getD n ByteArray.empty)).2=true then [((n:Int),Jp l (JJ d l (t:Int) (f.getD n ByteArray.empty)).1)] else []:=by
 unfold R5
 rw[List.range_succ,List.filter_append,List.map_append]
 congr 1
 rw[List.filter_cons,List.filter_nil]
 split<;>rfl
theorem nT (d:List AH) (l:List AP) (f:List ByteArray) (t n:Nat):(R5 d l f t n).length≤n:=by
 unfold R5
 rw[List.length_map]
 exact Nat.le_trans (List.length_filter_le _ _) (by simp)
theorem ZF (d:List AH) (l:List AP) (f:List ByteArray) (n:Nat):JK d l f (n+1)=JK d l f n++[R5 d l f n f.length]:=by simp[JK,List.range_succ]
theorem UE (d:List AH) (l:List AP) (f:List ByteArray) (n:Nat):(JK d l f n).length=n:=by simp[JK]
theorem nU {d:List AH} {l:List AP} (h:∀x∈l,x.2.length≤64) (t:Int) (s:ByteArray):(JJ d l t s).1.length≤64:=by
 unfold JJ
 refine R3 t s d ?_
 rw[List.getD_eq_getElem?_getD]
 cases hh:l[0]? with
 | none=>simp
 | some x=>exact h x (List.mem_of_getElem? hh)
def NW:Ah:={ ins:=[Es],pre:=fun _=>True,out:=fun(d,_)=>[.p v9 (A8 d).1,.p Rb (A8 d).2] }
theorem ZG:Ao Tryz.prog 63 NW:=by
 refine AW Tryz.func63 (by kernel_rfl) rfl Tryz.ntmps63 (by decide) (by kernel_rfl) (AF [(93,LY),(64,Iq),(94,Kw),(95,jC),(96,VM)]) (AD UD (AD NV (AD Rs (AD nR (AD nE AI))))) ?_
 rintro w0 O0 ⟨d,u⟩ hc - -
 simp only[NW,AM]
 repeat'(first|exact trivial|refine eS rfl ?_|refine AB ?_|refine rX [0,2,3,4,5,7,8,9,10,11,12,13,17,29,35,49] hc ?_ ?_|refine rC ?_ ?_<;>intro AA<;>try(cases AA;done))
 ·have h1:A8 d=([],Ax d):=by unfold A8;rw[if_pos AA]
  exact AG hc [.tmp 2,.tmp 3] rfl (.inl rfl) (by simp) (by rw[h1];first|exact eR|refine Av ?_)
 ·have h5:Ax d=0:=by simpa using AA
  obtain⟨hz,-,-⟩:=CY h5
  obtain⟨h3,-,-⟩:=Bk hz
  exact⟨(A3 h3).2.1,fun x hx=>(Jt h3 x hx).2⟩
 ·have h5:Ax d=0:=by simpa using AA
  obtain⟨hz,hf64,hdz⟩:=CY h5
  obtain⟨h3,hlen,hl⟩:=Bk hz
  obtain⟨hsup,hd,-⟩:=A3 h3
  have hr:A8 d=(JK d (AL d) (CF d) (AL d).length,0):=by unfold A8;rw[if_neg (by rw[h5];simp)]
  have hnr:=Qc h3 hdz
  have hwid:=Md h3
  have hll:(AL d).length≤256:=by rw[Jr];exact hlen
  rw[hl]
  generalize AL d=l at *
  generalize CF d=f at *
  have hiw:=fun t s=>nU (d:=d) hwid t s
  refine AJ (ι:={t:Nat//t≤l.length}) (fun t=>⟨[(0,.p Es d),(5,.p JF l),(7,.p Br f),(8,.sr 61 Wg 0 (JK d l f t.1).length),(9,.p (.int .i64) (t.1:Int))],[(61,.arr 82 Wg (JK d l f t.1))]⟩) (fun t=>l.length-t.1) ⟨0,Nat.zero_le _⟩ (AC [(61,.nil)] rfl rfl ?_ ?_) (fun t=>?_)
  ·first|exact eN|refine eM ?_
   rfl
  ·first|exact eN|refine eM ?_
   rfl
  ·obtain⟨t,ht⟩:=t
   have hlen:=UE d l f t
   have hs:=ZF d l f t
   simp only
   repeat'(first|exact trivial|refine eS rfl ?_|refine AB ?_|refine rX [0,2,3,4,5,7,8,9,10,11,12,13,17,29,35,49] hc ?_ ?_|refine rC ?_ ?_<;>intro AA<;>try(cases AA;done))
   ·refine AJ (ι:={i:Nat//i≤f.length}) (fun i=>⟨[(0,.p Es d),(5,.p JF l),(7,.p Br f),(8,.sr 61 Wg 0 (JK d l f t).length),(9,.p (.int .i64) (t:Int)),(10,.sr 57 x8 0 (R5 d l f t i.1).length),(11,.p (.int .i64) (i.1:Int))],[(61,.arr 82 Wg (JK d l f t)),(57,.arr 87 x8 (R5 d l f t i.1))]⟩) (fun i=>f.length-i.1) ⟨0,Nat.zero_le _⟩ (AC [(61,.nm 61),(57,.nil)] rfl rfl ?_ ?_) (fun i=>?_)
    ·first|exact eN|refine eM ?_
     rfl
    ·first|exact eN|refine eM ?_
     rfl
    ·obtain⟨i,hi⟩:=i
     have hol:=nT d l f t i
     have hos:=jD d l f t i
     simp only
     repeat'(first|exact trivial|refine eS rfl ?_|refine AB ?_|refine rX [0,2,3,4,5,7,8,9,10,11,12,13,17,29,35,49] hc ?_ ?_|refine rC ?_ ?_<;>intro AA<;>try(cases AA;done))
     ·exact⟨AA,hnr,by assumption,hll,hwid⟩
     ·refine⟨Nat.le_trans (hiw _ _) (by decide),?_⟩
      simp only[AO]
      omega
     ·omega
     ·have hi2:i<f.length:=Int.ofNat_lt.1 (by assumption)
      rw[if_pos AA]at hos
      refine⟨⟨i+1,hi2⟩,by simp only;omega,AC [(61,.nm 61),(57,.nm 57)] rfl rfl ?_ ?_⟩
      ·simp only[hos]
       first|exact eN|refine eM ?_
      ·simp only[hos]
       first|exact eN|refine eM ?_
     ·omega
     ·have hi2:i<f.length:=Int.ofNat_lt.1 (by assumption)
      rw[if_neg (by rw[AA];simp),List.append_nil]at hos
      refine⟨⟨i+1,hi2⟩,by simp only;omega,AC [(61,.nm 61),(57,.nm 57)] rfl rfl ?_ ?_⟩
      ·simp only[hos]
       first|exact eN|refine eM ?_
      ·simp only[hos]
       first|exact eN|refine eM ?_
     ·rw[hlen]
      simp only[AO]
      omega
     ·omega
     ·have ht2:t<l.length:=Int.ofNat_lt.1 (by assumption)
      have hi2:i=f.length:=by omega
      subst hi2
      refine⟨⟨t+1,ht2⟩,by simp only;omega,AC [(61,.nm 61)] rfl rfl ?_ ?_⟩
      ·simp only[hs]
       first|exact eN|refine eM ?_
      ·simp only[hs]
       first|exact eN|refine eM ?_
   ·have ht2:t=l.length:=by omega
    subst ht2
    refine HQ [61] ?_
    exact AG hc [.tmp 2,.tmp 3] rfl (.inl rfl) (by simp) (by rw[hr];first|exact eR|refine Av ?_)
end
end Go.Proofs.YtdapahgnpbehbaaGreat.Fw
