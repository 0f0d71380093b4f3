/- Contracts of the program's and the reference's functions, and the plain laws of what they compute: C1 C2 C9 C10 C11 C12 C13 C3 C4 C5 C6 C7 C8 C14 C15 C16 C17 C18 C19 C20 C21 C22 C23 N1 N2 C24 C25 N3 C26 C27 C28 C29 N4 C30 C31 C32 C33 C34. -/
import Derived.Test.YtdapahgnpbehbaaGreatIZJ
set_option linter.unusedVariables false
set_option linter.unusedSimpArgs false
namespace Go.Proofs.YtdapahgnpbehbaaGreat.Fw
open Go
attribute [local irreducible] Ev
attribute [local go_sem] XK AL List.toList_toArray Bl evG evK TS EH JS F1 FC FM Mr J2 B4 Cv LJ CD CS frz ZH Fv Cu A2 E3 BO AV.frz AV.frzs AV.drp AV.drps AV.names AV.namess aq Fy J1 JI QW H6 BP BW IY Dz He D0 Hg Hf Hh RK Ml GG JK E5 Du RL OQ nY IZ Hi KO Eh DR H9 JL D5 QX CK D6 EU OT Hj OU KP IA JM Cn CY Em DS Gm DC EV DD D7 E7 CD CR Mj OP L9 Fj H8 H7 JJ Lw Mo KR KU KS JP Ph KT JQ VZ Mq Mp AV.trn AV.trns Dp CJ Obj.trn Ir Xe Cp DF Co D8 CF EW AZ lk GS Fx Gj t7 ZG TX ZJ Pf kC kD uD AV.cells B0 IW Mk JO Mn CB Lu Ty.cell1 Hd EP DQ FL J0 Dy JH KN OO El GF Ln QU RJ KM JF VX Wq Pe Lv Ce IX RV.flat Ty.flat Ty.size St.add upd del BQ Value.oneCell' KJ Ty.dflt Hc M9 Gw NH List.take_succ_cons List.take_zero List.length_cons XT XU NG Im Kj Ge Io o0 FD LT LU LV LW Oe Og Jb Ht Rd Option.map_some Option.map_none Option.bind_some Option.getD_some Option.getD_none Option.isNone_none Option.isNone_some Bool.and_true Bool.true_and Bool.and_false Bool.false_and Bool.not_true Bool.not_false if_true if_false List.length_cons List.length_nil and_true true_and and_self List.all_cons List.all_nil List.append_nil List.nil_append List.cons_append List.getElem?_cons_zero List.getElem?_cons_succ List.getElem?_nil List.map_cons List.map_nil List.set_cons_zero List.set_cons_succ List.isEmpty_nil List.isEmpty_cons decide_true decide_false beq_self_eq_true bne_self_eq_false Nat.zero_add Nat.add_zero Nat.sub_zero Int.toNat_natCast Int.toNat_zero Int.toNat_one List.take_length List.length_append List.length_singleton true_or or_true or_self false_or or_false Ty.agg.injEq Ty.slice.injEq Ty.prod.injEq Ty.int.injEq Option.some.injEq beq_iff_eq J8 evMG evMQ o6 Gy Kg Bo Il F2 NB Ij Gx Hu Jc J7 MK L1 ML Qa Kh NC ND Ik AU Ac Op.operands Call.operands List.filterMap_cons List.filterMap_nil List.append_eq Bool.cond_false_right Bool.cond_true_left cond_true cond_false implies_true decide_eq_true_eq beq_true beq_false Bool.or_true Bool.or_false Bool.true_or Bool.false_or Option.isSome_some Array.empty_append List.append_toArray E4 LK EX Gk VY Mm E6 FU FT Hk Gl JN KQ TY ZI IR inB JR E8 Fk Ia Ak XV List.drop_zero DJ Gz Vs Ci Kl Ba AV.fgt AV.fgts Obj.fgt Ab Ap AU Df Kk Bg Ip List.any_cons List.any_nil Zh XY Vt XZ Kn Om qs List.flatMap_cons List.flatMap_nil List.cons_append tn Vx It List.take_succ_cons List.drop_succ_cons V0 G8 Bj c9 LZ CG Cc Al FB Ja Bn EZ DV Gv Hs GH IE
attribute [local go_sem] IU dD ty3 ty4 ty5 ty9 vO vP vQ vR vS vT vU vV vW vX vY vZ v4 v5 v6 v7 v8 v9 wA wB wC wD wE wF wG wH wI wJ wK wL wM wN wO wP wQ wR wS wT wU wV wW wX wY wZ w3 w4 w5 w7 w8 w9 xA xB xC xD xE xF xG xH xI xJ xK xL xM xN xO xP xQ xR xS xT xU xV xW xX dE dF dG dH dI dJ dK dL dM dN dP dQ dR dS dT dU dV dW dX dY dZ d3 d4 d5 d6 d7 d8 d9 eA eB eC eD eE eF eG eH eI eJ eK eL eO eP eQ eU eW eX eY eZ e7 e9 fA fB fC fD fE fF fG fH fJ fL fN fO fP fQ fR fS fT fU fV fW fX fY fZ f2 f3 f5 f6 f7 f8 f9 gA gB gC gD gE gF gG gH gI gJ gK gL gM gN gP gQ gR gS gT gU gV gW gX gY gZ g8 g9 hC hH hU hZ iA iB iC iD iE iG iH iI
set_option maxRecDepth 100000
set_option maxHeartbeats 4000000
section
def IK (a b c:Int):Bool:=decide (a≤c)&&decide (c≤b)
def Zv:Ad:={ ins:=[.int .u8],pre:=fun _=>True,out:=fun(c,_)=>[.p .bool (IK 48 57 c)] }
attribute [local go_sem] Zv
def Zw:Ad:={ ins:=[.int .u8],pre:=fun _=>True,out:=fun(c,_)=>[.p .bool (IK 65 90 c)] }
attribute [local go_sem] Zw
def Zx:Ad:={ ins:=[.int .u8],pre:=fun _=>True,out:=fun(c,_)=>[.p .bool (IK 97 122 c)] }
attribute [local go_sem] Zx
theorem Xr:Aj Tryz.prog 176 Zv:=by
 refine fK [0,2] Tryz.func176 Tryz.ntmps176 AG ?_;rintro w0 O0 ⟨c,u⟩ a - -;simp only[Zv,AL];repeat'(first|exact trivial|refine eS rfl ?_|refine AB ?_|refine rX a ?_ ?_|refine rC ?_ ?_<;>intro b<;>try(cases b;done))
 exact fI a [.tmp 2] (by unfold IK;exact eR)
theorem qD:Aj Tryz.prog 183 Zw:=by
 refine fK [0,2] Tryz.func183 Tryz.ntmps183 AG ?_;rintro w0 O0 ⟨c,u⟩ a - -;simp only[Zw,AL];repeat'(first|exact trivial|refine eS rfl ?_|refine AB ?_|refine rX a ?_ ?_|refine rC ?_ ?_<;>intro b<;>try(cases b;done))
 exact fI a [.tmp 2] (by unfold IK;exact eR)
theorem qE:Aj Tryz.prog 184 Zx:=by
 refine fK [0,2] Tryz.func184 Tryz.ntmps184 AG ?_;rintro w0 O0 ⟨c,u⟩ a - -;simp only[Zx,AL];repeat'(first|exact trivial|refine eS rfl ?_|refine AB ?_|refine rX a ?_ ?_|refine rC ?_ ?_<;>intro b<;>try(cases b;done))
 exact fI a [.tmp 2] (by unfold IK;exact eR)
def R8 (c:Int) (big:Bool):Bool:=IK 48 57 c||c==45||big&&IK 65 90 c||!big&&IK 97 122 c
def qF:Ad:={ ins:=[.int .u8,.bool],pre:=fun _=>True,out:=fun(c,b,_)=>[.p .bool (R8 c b)] }
attribute [local go_sem] qF
theorem xZ:Aj Tryz.prog 177 qF:=by
 refine fK [0,1,4] Tryz.func177 Tryz.ntmps177 (AD Xr (AD qD (AD qE AG))) ?_;rintro w0 O0 ⟨c,b,u⟩ a - -;simp only[qF,AL];repeat'(first|exact trivial|refine eS rfl ?_|refine AB ?_|refine rX a ?_ ?_|refine rC ?_ ?_<;>intro d<;>try(cases d;done))
 exact fI a [.tmp 4] (by unfold R8;exact eR)
abbrev z2 (s:ByteArray) (i:Nat):Int:=((s.data.getD i 0).toNat:Int)
def Ov (s:ByteArray):Bool:=decide ((s.size:Int)<1)||decide (32<(s.size:Int))||IK 48 57 (z2 s 0)||z2 s 0==45
def EB (s:ByteArray) (big:Bool):Bool:=!Ov s&&(List.range s.size).all fun i=>R8 (z2 s i) big
def Zy:Ad:={ ins:=[T9,.bool],pre:=fun _=>True,out:=fun(s,b,_)=>[.p .bool (EB s b)] }
attribute [local go_sem] Zy
theorem Xs:Aj Tryz.prog 165 Zy:=by
 refine fK [0,1,4,5,23,27,35] Tryz.func165 Tryz.ntmps165 (AD Xr (AD xZ AG)) ?_;rintro w0 O0 ⟨s,b,u⟩ d - -;simp only[Zy,AL];repeat'(first|exact trivial|refine eS rfl ?_|refine AB ?_|refine rX d ?_ ?_|refine rC ?_ ?_<;>intro a<;>try(cases a;done))
 ·constructor
  ·intro h;simp only[To,AAi,NO]at h;have:1≤(s.size:Int):=by omega
   exact this
  ·intro h;simp only[To,AAi,NO]at h;have:1≤(s.size:Int):=by omega
   exact this
 ·have h1:Ov s=true:=by
   unfold Ov z2;simp only[AA1,GO,AA0];exact a
  have c:EB s b=false:=by unfold EB;rw[h1];rfl
  exact fI d [.tmp 4] (by rw[c];exact eR)
 ·have h1:Ov s=false:=by
   unfold Ov z2;simp only[AAi,NO,ABu];exact⟨⟨⟨by omega,by omega⟩,a.1.2⟩,a.2⟩
  have g:s.size≤32:=by omega
  refine AH (ι:={k:Nat//k≤s.size∧((List.range k).all fun i=>R8 (z2 s i) b)=true}) (fun k=>⟨[(0,.p T9 s),(1,.p .bool b),(5,.p (.int .i64) (k.1:Int))],[]⟩) (fun k=>s.size-k.1) ⟨0,by simp⟩ (AC [] rfl rfl ?_ ?_) (fun k=>?_)
  ·first|exact eN|refine eM ?_
  ·first|exact eN|refine eM ?_
  ·obtain⟨k,hk,f⟩:=k;repeat'(first|exact trivial|refine eS rfl ?_|refine AB ?_|refine rX d ?_ ?_|refine rC ?_ ?_<;>intro a<;>try(cases a;done))
   ·exact a
   ·have e:k<s.size:=by omega
    have c:EB s b=false:=by
     unfold EB;rw[AAt];refine .inr (ABT.2 fun h=>?_);have:=DO.1 h k (oN.2 e);rw[show R8 (z2 s k) b=false from a]at this;cases this
    exact fI d [.tmp 4] (by rw[c];exact eR)
   ·omega
   ·have e:k<s.size:=by omega
    refine⟨⟨k+1,by omega,?_⟩,by simp only;omega,AC [] rfl rfl ?_ ?_⟩
    ·rw[AAb,ABr,f];rw[ABP,AAU,List.all_nil,Bool.and_true];exact a
    ·first|exact eN|refine eM ?_
    ·first|exact eN|refine eM ?_
   ·have e:k=s.size:=by omega
    subst e;have c:EB s b=true:=by unfold EB;rw[h1,f];rfl
    exact fI d [.tmp 4] (by rw[c];exact eR)
def qG:Ad:={ ins:=[T9],pre:=fun _=>True,out:=fun(s,_)=>[.p .bool (EB s false)] }
def R9:Ad:={ ins:=[T9],pre:=fun _=>True,out:=fun(s,_)=>[.p .bool (EB s true)] }
theorem x5:Aj Tryz.prog 151 qG:=by
 refine fK [0,2] Tryz.func151 Tryz.ntmps151 (AD Xs AG) ?_;rintro w0 O0 ⟨s,u⟩ a - -;simp only[qG,AL];repeat'(first|exact trivial|refine eS rfl ?_|refine AB ?_|refine rX a ?_ ?_|refine rC ?_ ?_<;>intro b<;>try(cases b;done))
 exact fI a [.tmp 2]
theorem Zz:Aj Tryz.prog 150 R9:=by
 refine fK [0,2] Tryz.func150 Tryz.ntmps150 (AD Xs AG) ?_;rintro w0 O0 ⟨s,u⟩ a - -;simp only[R9,AL];repeat'(first|exact trivial|refine eS rfl ?_|refine AB ?_|refine rX a ?_ ?_|refine rC ?_ ?_<;>intro b<;>try(cases b;done))
 exact fI a [.tmp 2]
end
section
theorem La {α:Type} (l:List α) (d:α) (p:α→Bool) {k:Nat} (h:k<l.length):(l.take (k+1)).any p=((l.take k).any p||p (l.getD k d)):=by
 rw[Ae l d h,ABO];simp
theorem F3 {α:Type} (l:List α) (d:α) (p:α→Bool) {k:Nat} (h:k<l.length) (hp:p (l.getD k d)=true):l.any p=true :=
 OF.2 ⟨_,AE l d h,hp⟩
def AR (l:List ByteArray) (s:ByteArray):Bool:=l.any fun x=>AY x s
def IL:Ad:={ ins:=[Bt,T9],pre:=fun _=>True,out:=fun(l,n,_)=>[.p .bool (AR l n)],lend:=true }
attribute [local go_sem] IL
theorem F4:Aj Tryz.prog 131 IL:=by
 refine fK [0,1,4,5,9,17] Tryz.func131 Tryz.ntmps131 AG ?_;rintro w0 O0 ⟨l,n,u⟩ b ⟨⟨e,-⟩,-⟩ -;simp only[AO]at e;simp only[IL,AL];repeat'(first|exact trivial|refine eS rfl ?_|refine AB ?_|refine rX b ?_ ?_|refine rC ?_ ?_<;>intro a<;>try(cases a;done))
 refine AH (ι:={k:Nat//k≤l.length∧(l.take k).any (fun x=>AY x n)=false}) (fun k=>⟨[(0,.p Bt l),(1,.p T9 n),(5,.p (.int .i64) (k.1:Int))],[]⟩) (fun k=>l.length-k.1) ⟨0,by simp⟩ (AC [] rfl rfl ?_ ?_) (fun k=>?_)
 ·first|exact eN|refine eM ?_
 ·first|exact eN|refine eM ?_
 ·obtain⟨k,hk,c⟩:=k;repeat'(first|exact trivial|refine eS rfl ?_|refine AB ?_|refine rX b ?_ ?_|refine rC ?_ ?_<;>intro a<;>try(cases a;done))
  ·exact eV
  ·have d:k<l.length:=by exact eV
   have h1:AR l n=true:=F3 l ByteArray.empty _ d a;exact fI b [.tmp 4] (by rw[h1];exact eR)
  ·exact eV
  ·have d:k<l.length:=by exact eV
   refine⟨⟨k+1,by exact eV,?_⟩,by simp only;exact eV,AC [] rfl rfl ?_ ?_⟩
   ·rw[La l ByteArray.empty _ d,c];exact a
   ·first|exact eN|refine eM ?_
   ·first|exact eN|refine eM ?_
  ·have hk:l.take k=l:=As (by exact eV);rw[hk]at c;have h1:AR l n=false:=c;exact fI b [.tmp 4] (by rw[h1];exact eR)
def nR (l:List ByteArray) (s:ByteArray):Nat:=(l.takeWhile fun x=>GN x s).length
theorem qH {α:Type} (p:α→Bool) (d:α):∀(l:List α) (k:Nat),k≤(l.takeWhile p).length→((k<l.length∧p (l.getD k d)=true)↔k+1≤(l.takeWhile p).length)
 | [],k,h=>by simp
 | x :: l,k,h=>by
  by_cases a:p x=true
  ·rw[List.takeWhile_cons,BY a]at h ⊢;cases k with
   | zero=>simp[a]
   | succ k =>
    have:=qH p d l k (by simpa using h);simpa using this
  ·rw[List.takeWhile_cons,At a]at h ⊢;have hk:k=0:=by simpa using h
   subst hk;simp[a]
theorem z3 {α:Type} (p:α→Bool) (l:List α):(l.takeWhile p).length≤l.length:=(List.takeWhile_sublist p).length_le
def Ds (l:List ByteArray) (s:ByteArray):List ByteArray :=
 if (decide (nR l s<l.length)&&AY (l.getD (nR l s) ByteArray.empty) s)=true then l else l.take (nR l s)++[s]++l.drop (nR l s)
def V7:Ad:={ ins:=[Bt,T9],pre:=fun(l,_,_)=>List.length l≤100000,out:=fun(l,n,_)=>[.p Bt (Ds l n)] }
attribute [local go_sem] V7
theorem Ow:Aj Tryz.prog 122 V7:=by
 refine fK [0,1,4,5,6,18,32] Tryz.func122 Tryz.ntmps122 AG ?_;rintro w0 O0 ⟨l,n,u⟩ c-m;have m:l.length≤100000:=m;simp only[V7,AL];repeat'(first|exact trivial|refine eS rfl ?_|refine AB ?_|refine rX c ?_ ?_|refine rC ?_ ?_<;>intro a<;>try(cases a;done))
 refine AH (ι:={k:Nat//k≤nR l n}) (fun k=>⟨[(0,.p Bt l),(1,.p T9 n),(5,.raw (.slice none 0 0)),(6,.p (.int .i64) (k.1:Int))],[]⟩) (fun k=>l.length-k.1) ⟨0,by simp⟩ (AC [] rfl rfl ?_ ?_) (fun k=>?_)
 ·first|exact eN|refine eM ?_
 ·first|exact eN|refine eM ?_
 ·obtain⟨k,hk⟩:=k;have d:=z3 (fun x=>GN x n) l;have i:=qH (fun x=>GN x n) ByteArray.empty l k hk;simp only;repeat'(first|exact trivial|refine eS rfl ?_|refine AB ?_|refine rX c ?_ ?_|refine rC ?_ ?_<;>intro a<;>try(cases a;done))
  ·exact fun h=>h
  ·have h1:k<l.length∧GN (l.getD k ByteArray.empty) n=true:=⟨by exact eV,a.2⟩;exact eV
  ·have h1:k<l.length∧GN (l.getD k ByteArray.empty) n=true:=⟨by exact eV,a.2⟩;refine⟨⟨k+1,i.1 h1⟩,by simp only;omega,AC [] rfl rfl ?_ ?_⟩
   ·first|exact eN|refine eM ?_
   ·first|exact eN|refine eM ?_
  ·exact fun h=>h
  ·rename_i f;have g:k=nR l n:=by
    refine ABJ hk (Nat.le_of_not_lt fun h=>?_);have:=i.2 h;rw[f (OM.2 this.1)]at this;cases this.2
   have e:Ds l n=l:=by
    unfold Ds;rw[←g,BY];rw[An,GO];exact⟨OM.1 a.1,a.2⟩
   exact fI c [.tmp 4] (by rw[e];exact eR)
  ·have j:=AAk k l;have b:k≤l.length:=f4 hk d;simp only[AO];exact⟨iF.2 b,by dsimp only[Ty.den]at *;omega⟩
  ·have j:=AAk k l;have b:k≤l.length:=f4 hk d;simp only[AO];dsimp only[Ty.den]at *;omega
  ·have j:=AAk k l;have b:k≤l.length:=f4 hk d;have q:(l.drop k).length≤l.length:=by rw[AAP];omega
   simp only[AO];exact⟨iF.2 b,by dsimp only[Ty.den]at *;omega⟩
  ·rename_i f;have g:k=nR l n:=by
    refine ABJ hk (Nat.le_of_not_lt fun h=>?_);have:=i.2 h;rw[f (OM.2 this.1)]at this;cases this.2
   have e:Ds l n=l.take k++[n]++l.drop k:=by
    unfold Ds;rw[←g,At];rw[An,GO];intro h;rw[a (OM.2 h.1)]at h;cases h.2
   have b:k≤l.length:=f4 hk d;have o:(l.take k).length+1+(l.drop k).length=(l.take k++[n]++l.drop k).length:=by simp only[On,oS]
   rw[o,←e];refine GJ [38] ?_;exact fI c [.tmp 4]
end
section
def FN (b:List Int) (i:Int):Int:=if i<b.length then b.getD i.toNat 0 else 0
def Xt:Ad:={ ins:=[Dh,T3],pre:=fun(_,i,_)=>(0:Int)≤i,out:=fun(b,i,_)=>[.p NN (FN b i)],lend:=true }
attribute [local go_sem] Xt
theorem iL:Aj Tryz.prog 142 Xt:=by
 refine fK [0,1,4,8] Tryz.func142 Tryz.ntmps142 AG ?_;rintro w0 O0 ⟨b,i,u⟩ c-hi;simp only[Xt,AL];repeat'(first|exact trivial|refine eS rfl ?_|refine AB ?_|refine rX c ?_ ?_|refine rC ?_ ?_<;>intro a<;>try(cases a;done))
 ·exact⟨hi,a⟩
 ·have h1:FN b i=b.getD i.toNat 0:=by unfold FN;rw[BY a]
  exact fI c [.tmp 4] (by rw[h1];exact eR)
 ·have h1:FN b i=0:=by unfold FN;rw[At (AAR.2 a)]
  exact fI c [.tmp 4] (by rw[h1];exact eR)
def CH (b:List Int):Nat→Nat
 | 0=>0
 | n+1=>if b.getD n 0=0 then CH b n else n+1
def BA (b:List Int):List Int:=b.take (CH b b.length)
theorem SA (b:List Int):∀n,CH b n≤n
 | 0=>If _
 | n+1=>by
  unfold CH;split
  ·exact Nat.le_succ_of_le (SA b n)
  ·exact If _
def Jj:Ad:={ ins:=[Dh],pre:=fun(b,_)=>List.length b≤100000,out:=fun(b,_)=>[.p Dh (BA b)] }
attribute [local go_sem] Jj
theorem Lb:Aj Tryz.prog 124 Jj:=by
 refine fK [0,2,3,15] Tryz.func124 Tryz.ntmps124 AG ?_;rintro w0 O0 ⟨b,u⟩ d-f;have f:b.length≤100000:=f;simp only[Jj,AL];repeat'(first|exact trivial|refine eS rfl ?_|refine AB ?_|refine rX d ?_ ?_|refine rC ?_ ?_<;>intro c<;>try(cases c;done))
 refine AH (ι:={n:Nat//n≤b.length∧CH b n=CH b b.length}) (fun n=>⟨[(0,.p Dh b),(3,.p (.int .i64) (n.1:Int))],[]⟩) (fun n=>n.1) ⟨b.length,If _,rfl⟩ (AC [] rfl rfl ?_ ?_) (fun n=>?_)
 ·first|exact eN|refine eM ?_
 ·first|exact eN|refine eM ?_
 ·obtain⟨n,hn,g⟩:=n;simp only;repeat'(first|exact trivial|refine eS rfl ?_|refine AB ?_|refine rX d ?_ ?_|refine rC ?_ ?_<;>intro c<;>try(cases c;done))
  ·constructor
   ·exact eV
   ·intro h;refine⟨?_,?_⟩<;>exact eV
  ·exact eV
  ·obtain⟨h1,a⟩:=c;obtain⟨m,rfl⟩:∃m,n=m+1:=⟨n-1,by omega⟩;have e:(((m+1:Nat):Int)-1)=(m:Int):=by omega
   rw[e]at a;have a:b.getD m 0=0:=a;have j:CH b m=CH b b.length:=by
    rw[←g];show _=if b.getD m 0=0 then CH b m else m+1
    rw[BY a]
   refine⟨⟨m,by omega,j⟩,by simp,AC [] rfl rfl ?_ ?_⟩
   ·first|exact eN|refine eM ?_
   ·simp only[e];first|exact eN|refine eM ?_
  ·have k:=AAk n b;simp only[AO];exact⟨iF.2 hn,by dsimp only[Ty.den]at *;omega⟩
  ·have i:CH b n=n:=by
    cases n with
    | zero=>rfl
    | succ m =>
     have e:(((m+1:Nat):Int)-1)=(m:Int):=by omega
     rw[e]at c;have a:=c (by omega);have a:¬b.getD m 0=0:=a;show (if b.getD m 0=0 then CH b m else m+1)=m+1;rw[At a]
   have h1:BA b=b.take n:=by unfold BA;rw[←g,i]
   rw[←h1];refine GJ [18] ?_;exact fI d [.tmp 2]
end
section
attribute [local go_sem] Xt Jj
def qI (w:Int) (r:Int):Bool:=Bu .and .u64 (TW .u64 w r) 1==1
def Ox (b:List Int) (i:Int):Bool:=if (decide (i<0)||decide ((b.length:Int)≤i.tdiv 64))=true then false else qI (b.getD (i.tdiv 64).toNat 0) (i.tmod 64)
def qJ:Ad:={ ins:=[Dh,T3],pre:=fun _=>True,out:=fun(b,i,_)=>[.p .bool (Ox b i)],lend:=true }
theorem A0z {w:Int} (h0:0≤w) (r:Int):0≤TW .u64 w r∧TW .u64 w r≤w:=by
 unfold TW;have hp:(0:Int)<2 ^ (min r.toNat IntKind.u64.bits):=Int.pow_pos (by decide);rw[ABA _ (Int.le_of_lt hp)];exact⟨Int.ediv_nonneg h0 (Int.le_of_lt hp),Int.ediv_le_self _ h0⟩
theorem qK:Aj Tryz.prog 135 qJ:=by
 refine fK [0,1,4,13] Tryz.func135 Tryz.ntmps135 AG ?_;rintro w0 O0 ⟨b,i,u⟩ d ⟨⟨m,k⟩,e,-⟩ -;have e:Jz .i64 i:=e;rw[Jb]at e;have j:0≤i→Int.tdiv i 64=i / 64∧Int.tmod i 64=i % 64:=fun h=>⟨AAn h,ABd h⟩;simp only[qJ,AL];repeat'(first|exact trivial|refine eS rfl ?_|refine AB ?_|refine rX d ?_ ?_|refine rC ?_ ?_<;>intro c<;>try(cases c;done))
 ·intro h;have h0:0≤i:=by simpa using h
  obtain⟨a,g⟩:=j h0;rw[a];refine⟨by decide,?_,?_⟩<;>exact eV
 ·have h1:Ox b i=false:=by
   unfold Ox;rw[BY];rw[AA1,GO,GO];exact c
  exact fI d [.tmp 4] (by rw[h1];exact eR)
 ·obtain⟨h0,l⟩:=c;obtain⟨a,g⟩:=j h0;rw[a]at l;have f:Jz .u64 (b.getD (i / 64).toNat 0):=k _ (AE b 0 (by exact eV));rw[Ht]at f;have hs:=A0z f.1 (i % 64);rw[a,g];refine⟨⟨by decide,by exact eV,by exact eV⟩,⟨by exact eV,by exact eV⟩,⟨by decide,by exact eV,by exact eV⟩,⟨by exact eV,by exact eV⟩,by exact eV,hs.1,AB0 hs.2 f.2⟩
 ·have h1:Ox b i=qI (b.getD (i.tdiv 64).toNat 0) (i.tmod 64):=by
   unfold Ox;rw[At];rw[AA1,GO,GO];rintro (h|h)<;>omega
  exact fI d [.tmp 4] (by rw[h1];unfold qI;exact eR)
end
section
attribute [local go_sem] Xt Jj
def Fa (op:BinOp) (a b:List Int) (n:Nat):List Int:=(List.range n).map fun i=>Bu op .u64 (a.getD i 0) (FN b (i:Int))
theorem EC (op:BinOp) (a b:List Int) (n:Nat):(Fa op a b n).length=n:=by simp[Fa]
theorem UX (op:BinOp) (a b:List Int) (n:Nat):Fa op a b (n+1)=Fa op a b n++[Bu op .u64 (a.getD n 0) (FN b (n:Int))]:=by simp[Fa,AAb]
def Dt (a b:List Int):List Int:=BA (Fa .and a b a.length)
def qL:Ad:={ ins:=[Dh,Dh],pre:=fun(a,_,_)=>List.length a≤100000,out:=fun(a,b,_)=>[.p Dh (Dt a b)] }
theorem Z0:Aj Tryz.prog 112 qL:=by
 refine fK [0,1,4,5,6,10] Tryz.func112 Tryz.ntmps112 (AD iL (AD Lb AG)) ?_;rintro w0 O0 ⟨a,b,u⟩ d-ha;have ha:a.length≤100000:=ha;simp only[qL,AL];repeat'(first|exact trivial|refine eS rfl ?_|refine AB ?_|refine rX d ?_ ?_|refine rC ?_ ?_<;>intro c<;>try(cases c;done))
 refine AH (ι:={n:Nat//n≤a.length}) (fun n=>⟨[(0,.p Dh a),(1,.p Dh b),(5,.sr 23 NN 0 n.1),(6,.p (.int .i64) (n.1:Int))],[(23,.arr 155 NN (Fa .and a b n.1))]⟩) (fun n=>a.length-n.1) ⟨0,IS _⟩ (AC [(23,.nil)] rfl rfl ?_ ?_) (fun n=>?_)
 ·first|exact eN|refine eM ?_
  rfl
 ·first|exact eN|refine eM ?_
 ·obtain⟨n,hn⟩:=n;have g:=EC .and a b n;have hs:=UX .and a b n;simp only;repeat'(first|exact trivial|refine eS rfl ?_|refine AB ?_|refine rX d ?_ ?_|refine rC ?_ ?_<;>intro c<;>try(cases c;done))
  ·refine⟨c,?_⟩;simp only[AO];dsimp only[Ty.den]at *;omega
  ·exact eV
  ·have e:n<a.length:=by exact eV
   refine⟨⟨n+1,by omega⟩,by simp only;omega,AC [(23,.nm 23)] rfl rfl ?_ ?_⟩
   ·simp only[hs];first|exact eN|refine eM ?_
    rw[As (by rw[g];exact If _)]
   ·first|exact eN|refine eM ?_
  ·have e:n=a.length:=by exact eV
   subst e;refine GJ [23] ?_;have f:(Fa .and a b a.length).take a.length=Fa .and a b a.length:=As (by rw[EC];exact If _);repeat'(first|exact trivial|refine eS rfl ?_|refine AB ?_|refine rX d ?_ ?_|refine rC ?_ ?_<;>intro c<;>try(cases c;done))
   ·rw[f,EC];exact ha
   ·rw[f];exact fI d [.tmp 4] (by unfold Dt;exact eR)
def Oy (a b:List Int):List Int:=BA (Fa .andNot a b a.length)
def Z1:Ad:={ ins:=[Dh,Dh],pre:=fun(a,_,_)=>List.length a≤100000,out:=fun(a,b,_)=>[.p Dh (Oy a b)] }
attribute [local go_sem] Z1
theorem qM:Aj Tryz.prog 109 Z1:=by
 refine fK [0,1,4,5,6,10] Tryz.func109 Tryz.ntmps109 (AD iL (AD Lb AG)) ?_;rintro w0 O0 ⟨a,b,u⟩ d-ha;have ha:a.length≤100000:=ha;simp only[Z1,AL];repeat'(first|exact trivial|refine eS rfl ?_|refine AB ?_|refine rX d ?_ ?_|refine rC ?_ ?_<;>intro c<;>try(cases c;done))
 refine AH (ι:={n:Nat//n≤a.length}) (fun n=>⟨[(0,.p Dh a),(1,.p Dh b),(5,.sr 23 NN 0 n.1),(6,.p (.int .i64) (n.1:Int))],[(23,.arr 155 NN (Fa .andNot a b n.1))]⟩) (fun n=>a.length-n.1) ⟨0,IS _⟩ (AC [(23,.nil)] rfl rfl ?_ ?_) (fun n=>?_)
 ·first|exact eN|refine eM ?_
  rfl
 ·first|exact eN|refine eM ?_
 ·obtain⟨n,hn⟩:=n;have g:=EC .andNot a b n;have hs:=UX .andNot a b n;simp only;repeat'(first|exact trivial|refine eS rfl ?_|refine AB ?_|refine rX d ?_ ?_|refine rC ?_ ?_<;>intro c<;>try(cases c;done))
  ·refine⟨c,?_⟩;simp only[AO];dsimp only[Ty.den]at *;omega
  ·exact eV
  ·have e:n<a.length:=by exact eV
   refine⟨⟨n+1,by omega⟩,by simp only;omega,AC [(23,.nm 23)] rfl rfl ?_ ?_⟩
   ·simp only[hs];first|exact eN|refine eM ?_
    rw[As (by rw[g];exact If _)]
   ·first|exact eN|refine eM ?_
  ·have e:n=a.length:=by exact eV
   subst e;refine GJ [23] ?_;have f:(Fa .andNot a b a.length).take a.length=Fa .andNot a b a.length:=As (by rw[EC];exact If _);repeat'(first|exact trivial|refine eS rfl ?_|refine AB ?_|refine rX d ?_ ?_|refine rC ?_ ?_<;>intro c<;>try(cases c;done))
   ·rw[f,EC];exact ha
   ·rw[f];exact fI d [.tmp 4] (by unfold Oy;exact eR)
def Eg (a b:List Int):Bool:=((Oy a b).length:Int)==0
def NP:Ad:={ ins:=[Dh,Dh],pre:=fun(a,_,_)=>List.length a≤100000,out:=fun(a,b,_)=>[.p .bool (Eg a b)],lend:=true }
attribute [local go_sem] NP
theorem UY:Aj Tryz.prog 71 NP:=by
 refine fK [0,1,4] Tryz.func71 Tryz.ntmps71 (AD qM AG) ?_;rintro w0 O0 ⟨a,b,u⟩ c-ha;have ha:a.length≤100000:=ha;simp only[NP,AL];repeat'(first|exact trivial|refine eS rfl ?_|refine AB ?_|refine rX c ?_ ?_|refine rC ?_ ?_<;>intro d<;>try(cases d;done))
 ·exact ha
 ·exact fI c [.tmp 4] (by unfold Eg;exact eR)
def Cr (a b:List Int):Bool:=Eg a b&&Eg b a
def V8:Ad:={ ins:=[Dh,Dh],pre:=fun(a,b,_)=>List.length a≤100000∧List.length b≤100000,out:=fun(a,b,_)=>[.p .bool (Cr a b)],lend:=true }
theorem lK:Aj Tryz.prog 134 V8:=by
 refine fK [0,1,4] Tryz.func134 Tryz.ntmps134 (AD UY AG) ?_;rintro w0 O0 ⟨a,b,u⟩ c-⟨ha,e⟩;simp only[V8,AL];repeat'(first|exact trivial|refine eS rfl ?_|refine AB ?_|refine rX c ?_ ?_|refine rC ?_ ?_<;>intro d<;>try(cases d;done))
 ·exact⟨ha,fun _=>e⟩
 ·exact fI c [.tmp 4] (by unfold Cr;exact eR)
end
section
attribute [local go_sem] qJ
def FO (a b:List Int):Bool:=decide (a=b)
def SB:Ad:={ ins:=[Dh,Dh],pre:=fun _=>True,out:=fun(a,b,_)=>[.p .bool (FO a b)],lend:=true }
theorem WA:Aj Tryz.prog 125 SB:=by
 refine fK [0,1,4,5,10,14,25] Tryz.func125 Tryz.ntmps125 AG ?_;rintro w0 O0 ⟨a,b,u⟩ d ⟨⟨ha,-⟩,-⟩ -;simp only[AO]at ha;simp only[SB,AL];repeat'(first|exact trivial|refine eS rfl ?_|refine AB ?_|refine rX d ?_ ?_|refine rC ?_ ?_<;>intro c<;>try(cases c;done))
 ·have h1:FO a b=false:=by
   unfold FO;rw[NO];rintro rfl;exact c rfl
  exact fI d [.tmp 4] (by rw[h1];exact eR)
 ·have f:a.length=b.length:=by
   have:(a.length:Int)=(b.length:Int):=by simpa using c
   exact Int.ofNat_inj.1 this
  refine AH (ι:={k:Nat//k≤a.length∧a.take k=b.take k}) (fun k=>⟨[(0,.p Dh a),(1,.p Dh b),(5,.p (.int .i64) (k.1:Int))],[]⟩) (fun k=>a.length-k.1) ⟨0,IS _,rfl⟩ (AC [] rfl rfl ?_ ?_) (fun k=>?_)
  ·first|exact eN|refine eM ?_
  ·first|exact eN|refine eM ?_
  ·obtain⟨k,hk,hf⟩:=k;simp only;repeat'(first|exact trivial|refine eS rfl ?_|refine AB ?_|refine rX d ?_ ?_|refine rC ?_ ?_<;>intro c<;>try(cases c;done))
   ·exact⟨c,by rw[←f];exact c⟩
   ·have e:k<a.length:=by exact eV
    have h1:FO a b=false:=by
     unfold FO;rw[NO];rintro rfl;exact c rfl
    exact fI d [.tmp 4] (by rw[h1];exact eR)
   ·exact eV
   ·have e:k<a.length:=by exact eV
    have g:a.getD k 0=b.getD k 0:=by simpa using c
    refine⟨⟨k+1,by omega,?_⟩,by simp only;omega,AC [] rfl rfl ?_ ?_⟩
    ·rw[Ae a 0 e,Ae b 0 (by omega),hf];rw[show a.getD k 0=b.getD k 0 from g]
    ·first|exact eN|refine eM ?_
    ·first|exact eN|refine eM ?_
   ·have e:k=a.length:=by exact eV
    subst e;rw[gO,f,gO]at hf;have h1:FO a b=true:=by unfold FO;rw[hf];simp
    exact fI d [.tmp 4] (by rw[h1];exact eR)
end
section
attribute [local go_sem] qJ
def L3 (b:List Int) (n:Nat):List Int:=((List.range n).filter fun(i:Nat)=>Ox b (i:Int)).map fun(i:Nat)=>(i:Int)
def G9 (b:List Int):List Int:=L3 b (64*b.length)
theorem Z2 (b:List Int) (n:Nat):L3 b (n+1)=L3 b n++if Ox b (n:Int)=true then [(n:Int)] else []:=by
 unfold L3;rw[AAb,ABx,AAM]
 congr 1
 rw[AAr,ABN];split<;>rfl
theorem lL (b:List Int) (n:Nat):(L3 b n).length≤n:=by
 unfold L3;rw[AA3];exact f4 (AAZ _ _) (by simp)
def qN:Ad:={ ins:=[Dh],pre:=fun(b,_)=>List.length b≤100000,out:=fun(b,_)=>[.p IJ (G9 b)] }
attribute [local go_sem] qN
theorem x6:Aj Tryz.prog 156 qN:=by
 refine fK [0,2,3,4,9,14] Tryz.func156 Tryz.ntmps156 (AD qK AG) ?_;rintro w0 O0 ⟨b,u⟩ c-e;have e:b.length≤100000:=e;simp only[qN,AL];repeat'(first|exact trivial|refine eS rfl ?_|refine AB ?_|refine rX c ?_ ?_|refine rC ?_ ?_<;>intro a<;>try(cases a;done))
 refine AH (ι:={n:Nat//n≤64*b.length}) (fun n=>⟨[(0,.p Dh b),(3,.sr 18 T3 0 (L3 b n.1).length),(4,.p (.int .i64) (n.1:Int))],[(18,.arr 3 T3 (L3 b n.1))]⟩) (fun n=>64*b.length-n.1) ⟨0,IS _⟩ (AC [(18,.nil)] rfl rfl ?_ ?_) (fun n=>?_)
 ·first|exact eN|refine eM ?_
  rfl
 ·first|exact eN|refine eM ?_
  rfl
 ·obtain⟨n,hn⟩:=n;have f:=lL b n;have hs:=Z2 b n;simp only;repeat'(first|exact trivial|refine eS rfl ?_|refine AB ?_|refine rX c ?_ ?_|refine rC ?_ ?_<;>intro a<;>try(cases a;done))
  ·exact eV
  ·rw[a,BY rfl]at hs;simp only[AO];dsimp only[Ty.den]at *;omega
  ·exact eV
  ·have d:n<64*b.length:=by exact eV
   rw[a,BY rfl]at hs;refine⟨⟨n+1,by omega⟩,by simp only;omega,AC [(18,.nm 18)] rfl rfl ?_ ?_⟩
   ·simp only[hs];first|exact eN|refine eM ?_
   ·simp only[hs];first|exact eN|refine eM ?_
  ·exact eV
  ·have d:n<64*b.length:=by exact eV
   rw[a,At (by simp),AAl]at hs;refine⟨⟨n+1,by omega⟩,by simp only;omega,AC [(18,.nm 18)] rfl rfl ?_ ?_⟩
   ·simp only[hs];first|exact eN|refine eM ?_
   ·simp only[hs];first|exact eN|refine eM ?_
  ·have d:n=64*b.length:=by exact eV
   subst d;refine GJ [18] ?_;exact fI c [.tmp 2] (by unfold G9;exact eR)
def Z3:Ad:={ ins:=[Dh],pre:=fun(b,_)=>List.length b≤100000,out:=fun(b,_)=>[.p T3 ((G9 b).length:Int)],lend:=true }
theorem qO:Aj Tryz.prog 137 Z3:=by
 refine fK [0,2] Tryz.func137 Tryz.ntmps137 (AD x6 AG) ?_;rintro w0 O0 ⟨b,u⟩ a-d;simp only[Z3,AL];repeat'(first|exact trivial|refine eS rfl ?_|refine AB ?_|refine rX a ?_ ?_|refine rC ?_ ?_<;>intro c<;>try(cases c;done))
 ·exact d
 ·exact fI a [.tmp 2]
end
section
attribute [local go_sem] IL qG
abbrev AF:=ByteArray×List ByteArray×List (ByteArray×ByteArray)
abbrev d0:AF:=(ByteArray.empty,[],[])
def CT (s:ByteArray):Nat→List AF→Int
 | _,[]=>-1
 | k,x :: l=>if AY x.1 s=true then (k:Int) else CT s (k+1) l
def Af (l:List AF) (s:ByteArray):Int:=CT s 0 l
theorem QB (s:ByteArray) (l:List AF) {k:Nat} (h:k<l.length):CT s k (l.drop k)=if AY (l.getD k d0).1 s=true then (k:Int) else CT s (k+1) (l.drop (k+1)):=by
 rw[OS h];have e:l.getD k d0=l[k]:=by simp[AS,h]
 rw[e];rfl
def MR:Ad:={ ins:=[Ef,T9],pre:=fun _=>True,out:=fun(l,s,_)=>[.p T3 (Af l s)] }
attribute [local go_sem] MR
theorem Kr:Aj Tryz.prog 152 MR:=by
 refine fK [0,1,4,5,9,18] Tryz.func152 Tryz.ntmps152 AG ?_;rintro w0 O0 ⟨l,s,u⟩ c ⟨⟨d,-⟩,-⟩ -;simp only[AO]at d;simp only[MR,AL];repeat'(first|exact trivial|refine eS rfl ?_|refine AB ?_|refine rX c ?_ ?_|refine rC ?_ ?_<;>intro a<;>try(cases a;done))
 refine AH (ι:={k:Nat//k≤l.length∧CT s k (l.drop k)=Af l s}) (fun k=>⟨[(0,.p Ef l),(1,.p T9 s),(5,.p (.int .i64) (k.1:Int))],[]⟩) (fun k=>l.length-k.1) ⟨0,IS _,rfl⟩ (AC [] rfl rfl ?_ ?_) (fun k=>?_)
 ·first|exact eN|refine eM ?_
 ·first|exact eN|refine eM ?_
 ·obtain⟨k,hk,hf⟩:=k;simp only;repeat'(first|exact trivial|refine eS rfl ?_|refine AB ?_|refine rX c ?_ ?_|refine rC ?_ ?_<;>intro a<;>try(cases a;done))
  ·exact a
  ·have b:k<l.length:=by exact eV
   rw[QB s l b,BY a]at hf;exact fI c [.tmp 4] (by rw[←hf];exact eR)
  ·exact eV
  ·have b:k<l.length:=by exact eV
   rw[QB s l b,At (by rw[a];simp)]at hf;refine⟨⟨k+1,by omega,hf⟩,by simp only;omega,AC [] rfl rfl ?_ ?_⟩
   ·first|exact eN|refine eM ?_
   ·first|exact eN|refine eM ?_
  ·have b:l.drop k=[]:=IF (by exact eV);rw[b]at hf;exact fI c [.tmp 4] (by rw[←hf];first|exact eR|refine lE ?_;rfl)
def Ks:List AF→Int
 | []=>0
 | x :: l=>if 256<x.2.1.length∨256<x.2.2.length then 7 else Ks l
def ER (l:List AF):Int:=if 256<l.length then 7 else Ks l
theorem QC (l:List AF) {k:Nat} (h:k<l.length):Ks (l.drop k)=if 256<(l.getD k d0).2.1.length∨256<(l.getD k d0).2.2.length then 7 else Ks (l.drop (k+1)):=by
 rw[OS h];have e:l.getD k d0=l[k]:=by simp[AS,h]
 rw[e];rfl
def WB:Ad:={ ins:=[Ef],pre:=fun _=>True,out:=fun(l,_)=>[.p TU (ER l)] }
attribute [local go_sem] WB
theorem qP:Aj Tryz.prog 126 WB:=by
 refine fK [0,2,3,6,10,28] Tryz.func126 Tryz.ntmps126 AG ?_;rintro w0 O0 ⟨l,u⟩ b ⟨⟨d,-⟩,-⟩ -;simp only[AO]at d;simp only[WB,AL];repeat'(first|exact trivial|refine eS rfl ?_|refine AB ?_|refine rX b ?_ ?_|refine rC ?_ ?_<;>intro a<;>try(cases a;done))
 ·have h1:ER l=7:=by unfold ER;rw[BY (by exact eV)]
  exact fI b [.tmp 2] (by rw[h1];exact eR)
 ·have h1:ER l=Ks l:=by unfold ER;rw[At (by exact eV)]
  refine AH (ι:={k:Nat//k≤l.length∧Ks (l.drop k)=ER l}) (fun k=>⟨[(0,.p Ef l),(3,.p (.int .i64) (k.1:Int))],[]⟩) (fun k=>l.length-k.1) ⟨0,IS _,h1.symm⟩ (AC [] rfl rfl ?_ ?_) (fun k=>?_)
  ·first|exact eN|refine eM ?_
  ·first|exact eN|refine eM ?_
  ·obtain⟨k,hk,hf⟩:=k;simp only;repeat'(first|exact trivial|refine eS rfl ?_|refine AB ?_|refine rX b ?_ ?_|refine rC ?_ ?_<;>intro a<;>try(cases a;done))
   ·exact⟨a,fun _=>a⟩
   ·have c:k<l.length:=by exact eV
    rw[QC l c,BY (by
     rcases a with h|h
     ·exact .inl (OM.1 h)
     ·exact .inr (OM.1 h))]at hf
    exact fI b [.tmp 2] (by rw[←hf];exact eR)
   ·exact eV
   ·have c:k<l.length:=by exact eV
    rw[QC l c,At (by
     rintro (h|h)
     ·have:=iF.1 a.1;exact absurd h (Nat.not_lt.2 this)
     ·have:=iF.1 a.2;exact absurd h (Nat.not_lt.2 this))]at hf
    refine⟨⟨k+1,by omega,hf⟩,by simp only;omega,AC [] rfl rfl ?_ ?_⟩
    ·first|exact eN|refine eM ?_
    ·first|exact eN|refine eM ?_
   ·have c:l.drop k=[]:=IF (by exact eV);rw[c]at hf;exact fI b [.tmp 2] (by rw[←hf];first|exact eR|refine lE ?_;rfl)
theorem Fb {α:Type} (l:List α) (d:α) (p:α→Bool) {k:Nat} (h:k<l.length):(l.take (k+1)).all p=((l.take k).all p&&p (l.getD k d)):=by
 rw[Ae l d h,ABr];simp
def HA (x:AF) (done:List ByteArray):Bool:=x.2.1.all fun s=>AR done s
def WC:Ad:={ ins:=[lG,Bt],pre:=fun _=>True,out:=fun(x,l,_)=>[.p .bool (HA x l)],lend:=true }
attribute [local go_sem] WC
theorem qQ:Aj Tryz.prog 153 WC:=by
 refine fK [0,1,2,4,5,10,20] Tryz.func153 Tryz.ntmps153 (AD F4 AG) ?_;rintro w0 O0 ⟨⟨nm,sup,d⟩,l,u⟩ c ⟨⟨-,⟨e,-⟩,-⟩,-⟩ -;simp only[AO]at e;simp only[WC,AL];repeat'(first|exact trivial|refine eS rfl ?_|refine AB ?_|refine rX c ?_ ?_|refine rC ?_ ?_<;>intro a<;>try(cases a;done))
 refine AH (ι:={k:Nat//k≤sup.length∧(sup.take k).all (fun s=>AR l s)=true}) (fun k=>⟨[(1,.p Bt l),(2,.bp 2 [] 0),(5,.p (.int .i64) (k.1:Int))],[(2,.box 111 true [.p T9 nm,.p Bt sup,.p Xm d])]⟩) (fun k=>sup.length-k.1) ⟨0,by simp⟩ (AC [(2,.nm 2)] rfl rfl ?_ ?_) (fun k=>?_)
 ·first|exact eN|refine eM ?_
 ·first|exact eN|refine eM ?_
 ·obtain⟨k,hk,hf⟩:=k;simp only;repeat'(first|exact trivial|refine eS rfl ?_|refine AB ?_|refine rX c ?_ ?_|refine rC ?_ ?_<;>intro a<;>try(cases a;done))
  ·exact a
  ·have b:k<sup.length:=by exact eV
   have h1:HA (nm,sup,d) l=false:=by
    unfold HA;refine ABT.2 fun h=>?_;have:=DO.1 h _ (AE sup ByteArray.empty b);rw[a]at this;cases this
   exact fI c [.tmp 4] (by rw[h1];exact eR)
  ·have:=e;exact eV
  ·have b:k<sup.length:=by exact eV
   refine⟨⟨k+1,by omega,?_⟩,by simp only;omega,AC [(2,.nm 2)] rfl rfl ?_ ?_⟩
   ·rw[Fb sup ByteArray.empty _ b,hf];exact a
   ·first|exact eN|refine eM ?_
   ·first|exact eN|refine eM ?_
  ·have b:sup.take k=sup:=As (by exact eV);rw[b]at hf;have h1:HA (nm,sup,d) l=true:=hf;exact fI c [.tmp 4] (by rw[h1];exact eR)
def MS (d:List AF):Nat→List AF→Int
 | _,[]=>0
 | k,x :: l=>if EB x.1 false=false then 1 else if Af d x.1<(k:Int) then 4 else MS d (k+1) l
def CL (d:List AF):Int:=MS d 0 d
theorem Kt (d l:List AF) {k:Nat} (h:k<l.length):MS d k (l.drop k)=if EB (l.getD k d0).1 false=false then 1 else if Af d (l.getD k d0).1<(k:Int) then 4 else MS d (k+1) (l.drop (k+1)):=by
 rw[OS h];have e:l.getD k d0=l[k]:=by simp[AS,h]
 rw[e];rfl
def WD:Ad:={ ins:=[Ef],pre:=fun _=>True,out:=fun(l,_)=>[.p TU (CL l)] }
attribute [local go_sem] WD
theorem qR:Aj Tryz.prog 127 WD:=by
 refine fK [0,2,3,7,16,25] Tryz.func127 Tryz.ntmps127 (AD x5 (AD Kr AG)) ?_;rintro w0 O0 ⟨l,u⟩ c ⟨⟨e,-⟩,-⟩ -;simp only[AO]at e;simp only[WD,AL];repeat'(first|exact trivial|refine eS rfl ?_|refine AB ?_|refine rX c ?_ ?_|refine rC ?_ ?_<;>intro a<;>try(cases a;done))
 refine AH (ι:={k:Nat//k≤l.length∧MS l k (l.drop k)=CL l}) (fun k=>⟨[(0,.p Ef l),(3,.p (.int .i64) (k.1:Int))],[]⟩) (fun k=>l.length-k.1) ⟨0,IS _,rfl⟩ (AC [] rfl rfl ?_ ?_) (fun k=>?_)
 ·first|exact eN|refine eM ?_
 ·first|exact eN|refine eM ?_
 ·obtain⟨k,hk,hf⟩:=k;simp only;repeat'(first|exact trivial|refine eS rfl ?_|refine AB ?_|refine rX c ?_ ?_|refine rC ?_ ?_<;>intro a<;>try(cases a;done))
  ·exact a
  ·have b:k<l.length:=by exact eV
   rw[Kt l l b,BY a]at hf;exact fI c [.tmp 2] (by rw[←hf];exact eR)
  ·assumption
  ·rename_i d;have b:k<l.length:=by exact eV
   rw[Kt l l b,At (by rw[d];simp),BY a]at hf;exact fI c [.tmp 2] (by rw[←hf];exact eR)
  ·exact eV
  ·rename_i d;have b:k<l.length:=by exact eV
   rw[Kt l l b,At (by rw[d];simp),At (AAR.2 a)]at hf;refine⟨⟨k+1,by omega,hf⟩,by simp only;omega,AC [] rfl rfl ?_ ?_⟩
   ·first|exact eN|refine eM ?_
   ·first|exact eN|refine eM ?_
  ·have b:l.drop k=[]:=IF (by exact eV);rw[b]at hf;exact fI c [.tmp 2] (by rw[←hf];first|exact eR|refine lE ?_;rfl)
def Qd (d:List AF) (l:List ByteArray):Nat→List ByteArray→Int
 | _,[]=>0
 | k,x :: r=>if Af d x<0 then 5 else if AR (l.take k) x=true then 4 else Qd d l (k+1) r
def Jk (d:List AF):List AF→Int
 | []=>0
 | x :: l=>if Qd d x.2.1 0 x.2.1≠0 then Qd d x.2.1 0 x.2.1 else Jk d l
def Jl (d:List AF):Int:=Jk d d
theorem Oz (d:List AF) (l:List ByteArray) {k:Nat} (h:k<l.length):Qd d l k (l.drop k)=if Af d (l.getD k ByteArray.empty)<0 then 5 else if AR (l.take k) (l.getD k ByteArray.empty)=true then 4 else Qd d l (k+1) (l.drop (k+1)):=by
 rw[OS h];have e:l.getD k ByteArray.empty=l[k]:=by simp[AS,h]
 rw[e];rfl
theorem WE (d l:List AF) {k:Nat} (h:k<l.length):Jk d (l.drop k)=if Qd d (l.getD k d0).2.1 0 (l.getD k d0).2.1≠0 then Qd d (l.getD k d0).2.1 0 (l.getD k d0).2.1 else Jk d (l.drop (k+1)):=by
 rw[OS h];have e:l.getD k d0=l[k]:=by simp[AS,h]
 rw[e];rfl
def Qz:Ad:={ ins:=[Ef],pre:=fun _=>True,out:=fun(l,_)=>[.p TU (Jl l)] }
attribute [local go_sem] Qz
theorem lM:Aj Tryz.prog 128 Qz:=by
 refine fK [0,2,3,4,5,9,20,29,37] Tryz.func128 Tryz.ntmps128 (AD F4 (AD Kr AG)) ?_;rintro w0 O0 ⟨l,u⟩ d ⟨⟨h,g⟩,-⟩ -;simp only[AO]at h;simp only[Qz,AL];repeat'(first|exact trivial|refine eS rfl ?_|refine AB ?_|refine rX d ?_ ?_|refine rC ?_ ?_<;>intro a<;>try(cases a;done))
 refine AH (ι:={i:Nat//i≤l.length∧Jk l (l.drop i)=Jl l}) (fun i=>⟨[(0,.p Ef l),(3,.p (.int .i64) (i.1:Int))],[]⟩) (fun i=>l.length-i.1) ⟨0,IS _,rfl⟩ (AC [] rfl rfl ?_ ?_) (fun i=>?_)
 ·first|exact eN|refine eM ?_
 ·first|exact eN|refine eM ?_
 ·obtain⟨i,hi,hf⟩:=i;simp only;repeat'(first|exact trivial|refine eS rfl ?_|refine AB ?_|refine rX d ?_ ?_|refine rC ?_ ?_<;>intro a<;>try(cases a;done))
  ·exact a
  ·have f:i<l.length:=by exact eV
   have j:=g _ (AE l d0 f);have m:(l.getD i d0).2.1.length≤AO:=j.2.1.1;simp only[AO]at m;rw[WE l l f]at hf;generalize (l.getD i d0).2.1=sup at *;refine AH (ι:={k:Nat//k≤sup.length∧Qd l sup k (sup.drop k)=Qd l sup 0 sup}) (fun k=>⟨[(0,.p Ef l),(3,.p (.int .i64) (i:Int)),(4,.p Bt sup),(5,.p (.int .i64) (k.1:Int))],[]⟩) (fun k=>sup.length-k.1) ⟨0,IS _,rfl⟩ (AC [] rfl rfl ?_ ?_) (fun k=>?_)
   ·first|exact eN|refine eM ?_
   ·first|exact eN|refine eM ?_
   ·obtain⟨k,hk,c⟩:=k;simp only;repeat'(first|exact trivial|refine eS rfl ?_|refine AB ?_|refine rX d ?_ ?_|refine rC ?_ ?_<;>intro a<;>try(cases a;done))
    ·exact a
    ·have b:k<sup.length:=by exact eV
     rw[Oz l sup b,BY a]at c;rw[←c,BY (by decide)]at hf;exact fI d [.tmp 2] (by rw[←hf];exact eR)
    ·exact eV
    ·rename_i e;have b:k<sup.length:=by exact eV
     rw[Oz l sup b,At (AAR.2 e),BY a]at c;rw[←c,BY (by decide)]at hf;exact fI d [.tmp 2] (by rw[←hf];exact eR)
    ·exact eV
    ·rename_i e;have b:k<sup.length:=by exact eV
     rw[Oz l sup b,At (AAR.2 e),At (by rw[a];simp)]at c;refine⟨⟨k+1,by omega,c⟩,by simp only;omega,AC [] rfl rfl ?_ ?_⟩
     ·first|exact eN|refine eM ?_
     ·first|exact eN|refine eM ?_
    ·exact eV
    ·have b:sup.drop k=[]:=IF (by exact eV);rw[b]at c;rw[←c,At (by simp[Qd])]at hf;refine⟨⟨i+1,by omega,hf⟩,by simp only;omega,AC [] rfl rfl ?_ ?_⟩
     ·first|exact eN|refine eM ?_
     ·first|exact eN|refine eM ?_
  ·have b:l.drop i=[]:=IF (by exact eV);rw[b]at hf;exact fI d [.tmp 2] (by rw[←hf];first|exact eR|refine lE ?_;rfl)
end
section
attribute [local go_sem] MR WC IL V7
theorem EJ {α β:Type} (g:β→α→β) (l:List α) (d:α) (t:β) {i:Nat} (hi:i<l.length):(l.take (i+1)).foldl g t=g ((l.take i).foldl g t) (l.getD i d):=by
 rw[Ae l d hi,ABq];rfl
theorem Ku (l:List ByteArray) (s:ByteArray):(Ds l s).length≤l.length+1:=by
 unfold Ds;split
 ·omega
 ·have:=z3 (fun x=>GN x s) l;have a:nR l s≤l.length:=this;simp only[On,OR,AAP,oS];omega
def AM (l:List AF):List ByteArray:=l.foldl (fun o x=>Ds o x.1) []
theorem DW (l:List AF) (k:Nat):(AM (l.take k)).length≤k:=by
 have key:∀(l:List AF) (o:List ByteArray),(l.foldl (fun o x=>Ds o x.1) o).length≤o.length+l.length:=by
  intro l;induction l with
  | nil=>intro o;simp
  | cons x l b =>
   intro o;have h1:=b (Ds o x.1);have a:=Ku o x.1;simp only[TO,Is];omega
 have h1:=key (l.take k) [];have a:=AAk k l;unfold AM;simp only[AAS]at h1;omega
def NQ:Ad:={ ins:=[Ef],pre:=fun(l,_)=>List.length l≤100000,out:=fun(l,_)=>[.p Bt (AM l)] }
attribute [local go_sem] NQ
theorem UZ:Aj Tryz.prog 98 NQ:=by
 refine fK [0,2,3,4,8] Tryz.func98 Tryz.ntmps98 (AD Ow AG) ?_;rintro w0 O0 ⟨l,u⟩ b-d;have d:l.length≤100000:=d;simp only[NQ,AL];repeat'(first|exact trivial|refine eS rfl ?_|refine AB ?_|refine rX b ?_ ?_|refine rC ?_ ?_<;>intro a<;>try(cases a;done))
 refine AH (ι:={k:Nat//k≤l.length}) (fun k=>⟨[(0,.p Ef l),(3,.p Bt (AM (l.take k.1))),(4,.p (.int .i64) (k.1:Int))],[]⟩) (fun k=>l.length-k.1) ⟨0,IS _⟩ (AC [] rfl rfl ?_ ?_) (fun k=>?_)
 ·first|exact eN|refine eM ?_
 ·first|exact eN|refine eM ?_
  rfl
 ·obtain⟨k,hk⟩:=k;have hn:=DW l k;have hs:=fun h:k<l.length=>EJ (fun(o:List ByteArray) (x:AF)=>Ds o x.1) l d0 [] h;simp only;repeat'(first|exact trivial|refine eS rfl ?_|refine AB ?_|refine rX b ?_ ?_|refine rC ?_ ?_<;>intro a<;>try(cases a;done))
  ·exact⟨a,by omega⟩
  ·exact eV
  ·have c:k<l.length:=by exact eV
   have e:=hs c;refine⟨⟨k+1,by omega⟩,by simp only;omega,AC [] rfl rfl ?_ ?_⟩
   ·first|exact eN|refine eM ?_
   ·simp only;have e:AM (l.take (k+1))=Ds (AM (l.take k)) (l.getD k d0).1:=e;rw[e];first|exact eN|refine eM ?_
  ·have c:l.take k=l:=As (by exact eV);rw[c];exact fI b [.tmp 2]
def Hx (out:List ByteArray) (s:Bool×ByteArray) (x:AF):Bool×ByteArray :=
 if (AR out x.1||!HA x out)=true then s else (true,if (!s.1||GN x.1 s.2)=true then x.1 else s.2)
def HB (d:List AF) (out:List ByteArray):Bool×ByteArray:=d.foldl (Hx out) (false,ByteArray.empty)
def Hy (d:List AF):Nat→List ByteArray→List ByteArray
 | 0,out=>out
 | n+1,out=>if (HB d out).1=true then Hy d n (out++[(HB d out).2]) else out
def BS (d:List AF):List ByteArray:=Hy d d.length []
def HC (d:List AF) (out:List ByteArray):Nat:=d.countP fun x=>!AR out x.1
theorem CU (s:ByteArray):AY s s=true:=by unfold AY;simp
theorem MT (out:List ByteArray) (s x:ByteArray):AR (out++[s]) x=(AR out x||AY s x):=by
 unfold AR;simp[ABO]
theorem lN (d:List AF) (out:List ByteArray) (h:(HB d out).1=true):∃x∈d,x.1=(HB d out).2∧AR out x.1=false:=by
 have key:∀(l:List AF) (s:Bool×ByteArray),(∀x∈l,x∈d)→(s.1=true→∃x∈d,x.1=s.2∧AR out x.1=false)→(l.foldl (Hx out) s).1=true →
   ∃x∈d,x.1=(l.foldl (Hx out) s).2∧AR out x.1=false:=by
  intro l;induction l with
  | nil=>intro s _ hs h;exact hs h
  | cons y l i =>
   intro s e hs h;rw[TO]at h ⊢;refine i _ (fun x f=>e x (by simp[f])) (fun hp=>?_) h;unfold Hx at hp ⊢;split
   ·rename_i a;rw[BY a]at hp;exact hs hp
   ·rename_i a;simp only;have g:AR out y.1=false:=by
     cases b:AR out y.1 with
     | false=>rfl
     | true=>rw[b]at a;simp at a
    split
    ·exact⟨y,e y (by simp),rfl,g⟩
    ·rename_i c;have:s.1=true:=by
      cases b:s.1 with
      | true=>rfl
      | false=>rw[b]at c;simp at c
     exact hs this
 exact key d _ (fun _ h=>h) (fun h=>by cases h) h
theorem Xu {d:List AF} {out:List ByteArray} (h:(HB d out).1=true):HC d (out++[(HB d out).2])<HC d out:=by
 obtain⟨x,f,h1,c⟩:=lN d out h;generalize (HB d out).2=s at *;unfold HC;have key:∀l:List AF,(l.countP fun y=>!AR (out++[s]) y.1)≤l.countP fun y=>!AR out y.1:=by
  intro l;refine List.countP_mono_left fun y _ a=>?_;rw[MT]at a;cases e:AR out y.1 with
  | false=>rfl
  | true=>rw[e]at a;simp at a
 obtain⟨g,i,rfl⟩:=List.append_of_mem f;rw[ACf,ACf,AAV,AAV];have j:=key g;have k:=key i;have b:AR (out++[s]) x.1=true:=by rw[MT,h1,CU,Bool.or_true]
 rw[b,c];simp only[AC3,ACk,AAv];simp only[AAB,AAN];omega
def WF:Ad:={ ins:=[Ef],pre:=fun(l,_)=>List.length l≤100000,out:=fun(l,_)=>[.p Bt (BS l)] }
theorem lO:Aj Tryz.prog 129 WF:=by
 refine fK [0,2,3,4,5,6,7,11,29,40,46] Tryz.func129 Tryz.ntmps129 (AD F4 (AD qQ AG)) ?_;rintro w0 O0 ⟨d,u⟩ j-r;have r:d.length≤100000:=r;simp only[WF,AL];repeat'(first|exact trivial|refine eS rfl ?_|refine AB ?_|refine rX j ?_ ?_|refine rC ?_ ?_<;>intro a<;>try(cases a;done))
 refine AH (ι:={x:Nat×List ByteArray×Bool//x.1+x.2.1.length≤d.length∧(x.2.2=true→HC d x.2.1≤x.1∧Hy d x.1 x.2.1=BS d)∧(x.2.2=false→x.2.1=BS d)}) (fun x=>⟨[(0,.p Ef d),(3,.sr 50 T9 0 x.1.2.1.length),(4,.p .bool x.1.2.2)],[(50,.arr 9 T9 x.1.2.1)]⟩) (fun x=>(if x.1.2.2=true then x.1.1+1 else 0)) ⟨(d.length,[],true),by simp,fun _=>⟨List.countP_le_length,rfl⟩,fun h=>by cases h⟩ (AC [(50,.nil)] rfl rfl ?_ ?_) (fun x=>?_)
 ·first|exact eN|refine eM ?_
 ·first|exact eN|refine eM ?_
 ·obtain⟨⟨n,out,D⟩,s,t,v⟩:=x;simp only at s t v;simp only;repeat'(first|exact trivial|refine eS rfl ?_|refine AB ?_|refine rX j ?_ ?_|refine rC ?_ ?_<;>intro a<;>try(cases a;done))
  ·subst a;obtain⟨C,hp⟩:=t rfl;have B:({ data:=#[] }:ByteArray).size≤AO:=by decide
   rw[BY B];refine AH (ι:={y:Nat×Bool×ByteArray//y.1≤d.length∧(d.take y.1).foldl (Hx out) (false,ByteArray.empty)=y.2}) (fun y=>⟨[(0,.p Ef d),(3,.sr 50 T9 0 out.length),(4,.p .bool y.1.2.1),(5,.p T9 y.1.2.2),(6,.p (.int .i64) (y.1.1:Int))],[(50,.arr 9 T9 out)]⟩) (fun y=>d.length-y.1.1) ⟨(0,false,ByteArray.empty),by simp,rfl⟩ (AC [(50,.nm 50)] rfl rfl ?_ ?_) (fun y=>?_)
   ·first|exact eN|refine eM ?_
   ·first|exact eN|refine eM ?_
    rfl
   ·obtain⟨⟨k,w,b⟩,hk,c⟩:=y;simp only at hk c;have q:∀h:k<d.length,(d.take (k+1)).foldl (Hx out) (false,ByteArray.empty)=Hx out (w,b) (d.getD k d0):=fun h=>by
     rw[EJ (Hx out) d d0 _ h,c]
    simp only;repeat'(first|exact trivial|refine eS rfl ?_|refine AB ?_|refine rX j ?_ ?_|refine rC ?_ ?_<;>intro a<;>try(cases a;done))
    ·exact⟨a,fun _=>a⟩
    ·exact eV
    ·have g:k<d.length:=by exact eV
     refine⟨⟨(k+1,w,b),by simp only;omega,?_⟩,by simp only;omega,AC [(50,.nm 50)] rfl rfl ?_ ?_⟩
     ·simp only;rw[q g];unfold Hx;rw[BY];rw[AA1,To];exact a
     ·first|exact eN|refine eM ?_
     ·first|exact eN|refine eM ?_
    ·exact fun _=>by assumption
    ·assumption
    ·exact eV
    ·rename_i f;have g:k<d.length:=by exact eV
     refine⟨⟨(k+1,true,(d.getD k d0).1),by simp only;omega,?_⟩,by simp only;omega,AC [(50,.nm 50)] rfl rfl ?_ ?_⟩
     ·simp only;rw[q g];unfold Hx;rw[At (by rw[f.1,f.2];simp),BY (by rw[AA1,To];exact a)]
     ·first|exact eN|refine eM ?_
     ·first|exact eN|refine eM ?_
    ·exact eV
    ·rename_i f;have g:k<d.length:=by exact eV
     refine⟨⟨(k+1,true,b),by simp only;omega,?_⟩,by simp only;omega,AC [(50,.nm 50)] rfl rfl ?_ ?_⟩
     ·simp only;rw[q g];unfold Hx;rw[At (by rw[f.1,f.2];simp),At (by rw[AA1,To];rintro (h|h)<;>simp_all)]
     ·first|exact eN|refine eM ?_
     ·first|exact eN|refine eM ?_
    ·simp only[AO];dsimp only[Ty.den]at *;omega
    ·subst a;have l:d.take k=d:=As (by exact eV);rw[l]at c;have i:HB d out=(true,b):=c;have m:=Xu (d:=d) (out:=out) (by rw[i]);rw[i]at m;obtain⟨e,rfl⟩:∃e,n=e+1:=⟨n-1,by omega⟩;have o:Hy d e (out++[b])=BS d:=by
      rw[←hp];show _=if (HB d out).1=true then Hy d e (out++[(HB d out).2]) else out
      rw[i,BY rfl]
     have m:HC d (out++[b])<HC d out:=m;have A:HC d (out++[b])≤e:=by omega
     refine⟨⟨(e,out++[b],true),by simp only[On,oS];omega,fun _=>⟨A,o⟩,fun h=>by cases h⟩,by simp,AC [(50,.nm 50)] rfl rfl ?_ ?_⟩
     ·first|exact eN|refine eM ?_
     ·first|exact eN|refine eM ?_
    ·subst a;have l:d.take k=d:=As (by exact eV);rw[l]at c;have i:HB d out=(false,b):=c;have o:out=BS d:=by
      rw[←hp];cases n with
      | zero=>rfl
      | succ n =>
       show _=if (HB d out).1=true then Hy d n (out++[(HB d out).2]) else out
       rw[i,At (by simp)]
     refine⟨⟨(n,out,false),s,(fun h=>by cases h),fun _=>o⟩,by simp,AC [(50,.nm 50)] rfl rfl ?_ ?_⟩
     ·first|exact eN|refine eM ?_
     ·first|exact eN|refine eM ?_
  ·subst a;have z:=v rfl;rw[z];refine GJ [50] ?_;exact fI j [.tmp 2]
end
section
attribute [local go_sem] WB WD Qz WF
def HD (d:List AF):Nat:=d.countP fun x=>x.2.1.length==0
theorem Xv (d:List AF) {k:Nat} (h:k<d.length):HD (d.take (k+1))=HD (d.take k)+if ((d.getD k d0).2.1.length==0)=true then 1 else 0:=by
 unfold HD;rw[Ae d d0 h,ACf,AAV,List.countP_nil];omega
theorem lP (d:List AF):HD d≤d.length:=List.countP_le_length
def Ax (d:List AF):Int :=
 if ER d≠0 then ER d else if CL d≠0 then CL d else if Jl d≠0 then Jl d else if HD d≠1 then 1 else if (BS d).length<d.length then 6 else 0
theorem QD {d:List AF} (h:ER d=0):d.length≤256:=by
 unfold ER at h;split at h
 ·cases h
 ·omega
def Q0:Ad:={ ins:=[Ef],pre:=fun _=>True,out:=fun(l,_)=>[.p TU (Ax l)] }
attribute [local go_sem] Q0
theorem lQ:Aj Tryz.prog 97 Q0:=by
 refine fK [0,2,3,4,5,6,7,11,16,21,26,35,39,45] Tryz.func97 Tryz.ntmps97 (AD qP (AD qR (AD lM (AD lO AG)))) ?_;rintro w0 O0 ⟨d,u⟩ c - -;simp only[Q0,AL];repeat'(first|exact trivial|refine eS rfl ?_|refine AB ?_|refine rX c ?_ ?_|refine rC ?_ ?_<;>intro a<;>try(cases a;done))
 ·have h1:Ax d=ER d:=by unfold Ax;rw[BY a]
  exact fI c [.tmp 2] (by rw[h1];exact eR)
 ·rename_i hs;have hs:ER d=0:=by simpa using hs
  have h1:Ax d=CL d:=by unfold Ax;rw[At (by rw[hs];simp),BY a]
  exact fI c [.tmp 2] (by rw[h1];exact eR)
 ·rename_i hs hn;have hs:ER d=0:=by simpa using hs
  have hn:CL d=0:=by simpa using hn
  have h1:Ax d=Jl d:=by unfold Ax;rw[At (by rw[hs];simp),At (by rw[hn];simp),BY a]
  exact fI c [.tmp 2] (by rw[h1];exact eR)
 ·rename_i hs hn;have hs:ER d=0:=by simpa using hs
  have hn:CL d=0:=by simpa using hn
  have i:Jl d=0:=by simpa using a
  have j:=QD hs;have h1:Ax d=if HD d≠1 then 1 else if (BS d).length<d.length then 6 else 0:=by
   unfold Ax;rw[At (by rw[hs];simp),At (by rw[hn];simp),At (by rw[i];simp)]
  refine AH (ι:={k:Nat//k≤d.length}) (fun k=>⟨[(0,.p Ef d),(6,.p (.int .i64) (HD (d.take k.1):Int)),(7,.p (.int .i64) (k.1:Int))],[]⟩) (fun k=>d.length-k.1) ⟨0,IS _⟩ (AC [] rfl rfl ?_ ?_) (fun k=>?_)
  ·first|exact eN|refine eM ?_
  ·first|exact eN|refine eM ?_
   rfl
  ·obtain⟨k,hk⟩:=k;have l:=lP (d.take k);have m:=AAk k d;have g:=fun h:k<d.length=>Xv d h;simp only;repeat'(first|exact trivial|refine eS rfl ?_|refine AB ?_|refine rX c ?_ ?_|refine rC ?_ ?_<;>intro a<;>try(cases a;done))
   ·exact a
   ·exact eV
   ·exact eV
   ·have b:k<d.length:=by exact eV
    have e:=g b;rw[BY (by rw[AA0];exact Int.ofNat_eq_zero.1 a)]at e;refine⟨⟨k+1,by omega⟩,by simp only;omega,AC [] rfl rfl ?_ ?_⟩
    ·first|exact eN|refine eM ?_
    ·simp only[e];first|exact eN|refine eM ?_
   ·exact eV
   ·have b:k<d.length:=by exact eV
    have e:=g b;rw[At (by rw[AA0];exact fun h=>a (Int.ofNat_eq_zero.2 h))]at e;refine⟨⟨k+1,by omega⟩,by simp only;omega,AC [] rfl rfl ?_ ?_⟩
    ·first|exact eN|refine eM ?_
    ·simp only[e];first|exact eN|refine eM ?_
   ·have b:d.take k=d:=As (by exact eV);rw[b]at a;rw[BY (fun h=>a (by rw[h];rfl))]at h1;exact fI c [.tmp 2] (by rw[h1];exact eR)
   ·show d.length≤100000;omega
   ·rename_i f;have b:d.take k=d:=As (by exact eV);rw[b]at f;have f:(HD d:Int)=1:=by simpa using f
    rw[At (by omega),BY (OM.1 a)]at h1;exact fI c [.tmp 2] (by rw[h1];exact eR)
   ·rename_i f;have b:d.take k=d:=As (by exact eV);rw[b]at f;have f:(HD d:Int)=1:=by simpa using f
    rw[At (by omega),At (fun h=>absurd (iF.1 a) (Nat.not_le.2 h))]at h1;exact fI c [.tmp 2] (by rw[h1];exact eR)
end
section
attribute [local go_sem] MR IL V7
def Iv (o:List ByteArray) (s:ByteArray):List ByteArray:=if AR o s=true then o else o++[s]
def Kv (d:List AF) (s:ByteArray):List ByteArray:=(d.getD (Af d s).toNat d0).2.1
def HE (d:List AF):Nat→Nat→List ByteArray→List ByteArray
 | 0,_,o=>o
 | n+1,i,o=>if i<o.length then HE d n (i+1) ((Kv d (o.getD i ByteArray.empty)).foldl Iv o) else o
def Iw (l:List ByteArray):List ByteArray:=l.foldl Ds []
theorem Ua (l:List ByteArray):(Iw l).length≤l.length:=by
 have key:∀(l o:List ByteArray),(l.foldl Ds o).length≤o.length+l.length:=by
  intro l;induction l with
  | nil=>intro o;simp
  | cons x l a =>
   intro o;have h1:=a (Ds o x);have b:=Ku o x;simp only[TO,Is];omega
 have:=key l [];simpa[Iw] using this
def Jm (d:List AF) (s:ByteArray):List ByteArray:=if Af d s<0 then [] else Iw (HE d d.length 0 [s])
def NR (d:List AF):Prop:=∀x∈d,∀s∈x.2.1,0≤Af d s
theorem Ub (s:ByteArray):∀(l:List AF) (k:Nat),CT s k l=-1∨((k:Int)≤CT s k l∧CT s k l<(k:Int)+l.length∧AY (l.getD ((CT s k l).toNat-k) d0).1 s=true)
 | [],_=>.inl rfl
 | x :: l,k=>by
  simp only[CT];split
  ·rename_i h;right;refine⟨by omega,by simp only[Is];omega,?_⟩;have:((k:Int).toNat-k)=0:=by omega
   rw[this];exact h
  ·rcases Ub s l (k+1) with h|⟨h1,b,a⟩
   ·exact .inl h
   ·right;refine⟨by omega,by simp only[Is];omega,?_⟩;have:((CT s (k+1) l).toNat-k)=((CT s (k+1) l).toNat-(k+1))+1:=by omega
    rw[this];exact a
theorem Cs (d:List AF) (s:ByteArray):Af d s<0∨(0≤Af d s∧Af d s<(d.length:Int)∧AY (d.getD (Af d s).toNat d0).1 s=true):=by
 rcases Ub s d 0 with h|⟨h1,a,b⟩
 ·left;show CT s 0 d<0;omega
 ·have a:Af d s<((0:Nat):Int)+d.length:=a;exact .inr ⟨h1,by omega,b⟩
theorem Gf {a b:ByteArray}:AY a b=true↔a.toList=b.toList:=by unfold AY;simp
theorem DX {a b:ByteArray} (h:AY a b=true):AY b a=true:=Gf.2 (Gf.1 h).symm
theorem A7 {a b c:ByteArray} (h:AY a b=true) (g:AY b c=true):AY a c=true:=Gf.2 ((Gf.1 h).trans (Gf.1 g))
structure WG (d:List AF) (o:List ByteArray):Prop where
 decl:∀s∈o,0≤Af d s
 nd:o.Pairwise fun a b=>AY a b=false
theorem Jn (d:List AF):∀ {o:List ByteArray},WG d o→(o.map fun s=>(Af d s).toNat).Nodup
 | [],_=>by simp
 | s :: o,h=>by
  rw[tO,AAc];have c:=ABg.1 h.nd;refine⟨fun i=>?_,Jn d ⟨fun x a=>h.decl x (by simp[a]),c.2⟩⟩;obtain⟨x,a,e⟩:=Of.1 i;have h1:=h.decl s (by simp);have j:=h.decl x (by simp[a]);rcases Cs d s with g|⟨_,_,f⟩
  ·omega
  ·rcases Cs d x with g|⟨_,_,b⟩
   ·omega
   ·rw[e]at b;have:=c.1 x a;rw[A7 (DX f) b]at this;cases this
theorem WG.len {d:List AF} {o:List ByteArray} (h:WG d o):o.length≤d.length:=by
 have:=Dm d.length (o.map fun s=>(Af d s).toNat) (Jn d h) (fun j a=>by
  obtain⟨s,hs,rfl⟩:=Of.1 a;have h1:=h.decl s hs;rcases Cs d s with g|⟨_,g,_⟩<;>omega)
 simpa using this
theorem NS {o:List ByteArray} {s:ByteArray} (h:AR o s=false):∀x∈o,AY x s=false:=fun x b=>by
 cases a:AY x s with
 | false=>rfl
 | true=>exact absurd h (by rw[show AR o s=true from OF.2 ⟨x,b,a⟩];simp)
theorem iM {d:List AF} {o:List ByteArray} (h:WG d o) {s:ByteArray} (hs:0≤Af d s):WG d (Iv o s):=by
 unfold Iv;split
 ·exact h
 ·rename_i e;have e:AR o s=false:=by simpa using e
  refine⟨fun x c=>?_,?_⟩
  ·rcases ON.1 c with c|c
   ·exact h.decl x c
   ·have:x=s:=by simpa using c
    rw[this];exact hs
  ·rw[AB4];refine⟨h.nd,by simp,fun a ha b f=>?_⟩;have:b=s:=by simpa using f
   rw[this];exact NS e a ha
theorem Xw {d:List AF}:∀ {l o:List ByteArray},(∀s∈l,0≤Af d s)→WG d o→WG d (l.foldl Iv o)∧o.length≤(l.foldl Iv o).length
 | [],o,_,h=>⟨h,If _⟩
 | s :: l,o,a,h=>by
  obtain⟨b,c⟩:=Xw (l:=l) (fun x e=>a x (by simp[e])) (iM h (a s (by simp)));refine⟨b,f4 ?_ c⟩;unfold Iv;split<;>simp
theorem Xx {d:List AF} (b:NR d) (s:ByteArray):∀x∈Kv d s,0≤Af d x:=by
 intro x a;unfold Kv at a;by_cases h:(Af d s).toNat<d.length
 ·exact b _ (AE d d0 h) x a
 ·rw[AS,iS (by omega)]at a;cases a
def Z4:Ad:={ ins:=[Ef,T9],pre:=fun(d,_,_)=>NR d∧List.length d≤256,out:=fun(d,s,_)=>[.p Bt (Jm d s)] }
theorem qS:Aj Tryz.prog 155 Z4:=by
 refine fK [0,1,4,5,6,7,8,9,10,14,20,36,45,56] Tryz.func155 Tryz.ntmps155 (AD Kr (AD F4 (AD Ow AG))) ?_;rintro w0 O0 ⟨d,s,u⟩ b ⟨⟨Q,G⟩,-⟩ ⟨O,z⟩;have z:d.length≤256:=z;simp only[Z4,AL];repeat'(first|exact trivial|refine eS rfl ?_|refine AB ?_|refine rX b ?_ ?_|refine rC ?_ ?_<;>intro a<;>try(cases a;done))
 ·have h1:Jm d s=[]:=by unfold Jm;rw[BY a]
  exact fI b [.tmp 4] (by rw[h1];exact eR)
 ·have h1:Jm d s=Iw (HE d d.length 0 [s]):=by unfold Jm;rw[At (AAR.2 a)]
  have F:WG d [s]:=⟨fun x y=>by
   have:x=s:=by simpa using y
   rw[this];exact a,by simp⟩
  refine AH (ι:={x:Nat×List ByteArray//x.1≤x.2.length∧WG d x.2∧HE d (d.length-x.1) x.1 x.2=HE d d.length 0 [s]}) (fun x=>⟨[(0,.p Ef d),(1,.p T9 s),(5,.sr 16 T9 0 x.1.2.length),(6,.p (.int .i64) (x.1.1:Int))],[(16,.arr 9 T9 x.1.2)]⟩) (fun x=>d.length-x.1.1) ⟨(0,[s]),by simp,F,rfl⟩ (AC [(16,.nm 16)] rfl rfl ?_ ?_) (fun x=>?_)
  ·first|exact eN|refine eM ?_
  ·first|exact eN|refine eM ?_
  ·obtain⟨⟨i,o⟩,hi,c,t⟩:=x;simp only at hi c t;have U:=c.len;simp only;repeat'(first|exact trivial|refine eS rfl ?_|refine AB ?_|refine rX b ?_ ?_|refine rC ?_ ?_<;>intro a<;>try(cases a;done))
   ·have q:i<o.length:=by exact eV
    have A:=c.decl _ (AE o ByteArray.empty q);refine⟨a,A,?_⟩;rcases Cs d (o.getD i ByteArray.empty) with g|⟨_,g,_⟩
    ·omega
    ·exact g
   ·have q:i<o.length:=by exact eV
    have A:=c.decl _ (AE o ByteArray.empty q);have K:=Xx O (o.getD i ByteArray.empty);have C:HE d (d.length-(i+1)) (i+1) ((Kv d (o.getD i ByteArray.empty)).foldl Iv o)=HE d d.length 0 [s]:=by
     rw[←t];obtain⟨m,B⟩:∃m,d.length-i=m+1:=⟨d.length-i-1,by omega⟩;have H:d.length-(i+1)=m:=by omega
     rw[B,H];show _=if i<o.length then HE d m (i+1) ((Kv d (o.getD i ByteArray.empty)).foldl Iv o) else o
     rw[BY q]
    have M:(Kv d (o.getD i ByteArray.empty)).length≤AO:=by
     rcases Cs d (o.getD i ByteArray.empty) with g|⟨_,g,_⟩
     ·omega
     ·exact(G _ (AE d d0 (k:=(Af d (o.getD i ByteArray.empty)).toNat) (by omega))).2.1.1
    have N:(List.getD d (Af d (o.getD i ByteArray.empty)).toNat (ByteArray.empty,[],[])).2.1=Kv d (o.getD i ByteArray.empty):=rfl;rw[N];generalize Kv d (o.getD i ByteArray.empty)=sup at *;simp only[AO]at M;refine AH (ι:={k:Nat//k≤sup.length}) (fun k=>⟨[(0,.p Ef d),(1,.p T9 s),(5,.sr 16 T9 0 ((sup.take k.1).foldl Iv o).length),(6,.p (.int .i64) (i:Int)),(7,.p Bt sup),(8,.p (.int .i64) (k.1:Int))],[(16,.arr 9 T9 ((sup.take k.1).foldl Iv o))]⟩) (fun k=>sup.length-k.1) ⟨0,IS _⟩ (AC [(16,.nm 16)] rfl rfl ?_ ?_) (fun k=>?_)
    ·first|exact eN|refine eM ?_
     rfl
    ·first|exact eN|refine eM ?_
     rfl
    ·obtain⟨k,hk⟩:=k;have w:=Xw (l:=sup.take k) (o:=o) (fun x y=>K x (AA8 y)) c;have S:=w.1.len;have E:=fun h:k<sup.length=>EJ Iv sup ByteArray.empty o h;simp only;generalize D:(sup.take k).foldl Iv o=n at *;repeat'(first|exact trivial|refine eS rfl ?_|refine AB ?_|refine rX b ?_ ?_|refine rC ?_ ?_<;>intro a<;>try(cases a;done))
     ·exact a
     ·refine⟨by exact eV,?_⟩;simp only[AO];dsimp only[Ty.den]at *;omega
     ·exact eV
     ·have f:k<sup.length:=by exact eV
      have e:=E f;have r:Iv n (sup.getD k ByteArray.empty)=n++[sup.getD k ByteArray.empty]:=by unfold Iv;rw[At (by rw[a];simp)]
      rw[r]at e;refine⟨⟨k+1,by omega⟩,by simp only;omega,AC [(16,.nm 16)] rfl rfl ?_ ?_⟩
      ·simp only[e];first|exact eN|refine eM ?_
      ·simp only[e];first|exact eN|refine eM ?_
     ·exact eV
     ·have f:k<sup.length:=by exact eV
      have e:=E f;have r:Iv n (sup.getD k ByteArray.empty)=n:=by unfold Iv;rw[BY a]
      rw[r]at e;refine⟨⟨k+1,by omega⟩,by simp only;omega,AC [(16,.nm 16)] rfl rfl ?_ ?_⟩
      ·simp only[e];first|exact eN|refine eM ?_
      ·simp only[e];first|exact eN|refine eM ?_
     ·exact eV
     ·have f:sup.take k=sup:=As (by exact eV);rw[f]at D;rw[D]at C;have J:=w.1;have T:=w.2;refine⟨⟨(i+1,n),by simp only;omega,J,C⟩,by simp only;omega,AC [(16,.nm 16)] rfl rfl ?_ ?_⟩
      ·first|exact eN|refine eM ?_
      ·first|exact eN|refine eM ?_
   ·have I:o=HE d d.length 0 [s]:=by
     rw[←t];cases B:d.length-i with
     | zero=>rfl
     | succ m =>
      show _=if i<o.length then _ else o
      rw[At (by exact eV)]
    rw[←I]at h1;refine AH (ι:={j:Nat//j≤o.length}) (fun j=>⟨[(0,.p Ef d),(5,.sr 16 T9 0 o.length),(9,.p Bt ((o.take j.1).foldl Ds [])),(10,.p (.int .i64) (j.1:Int))],[(16,.arr 9 T9 o)]⟩) (fun j=>o.length-j.1) ⟨0,IS _⟩ (AC [(16,.nm 16)] rfl rfl ?_ ?_) (fun j=>?_)
    ·first|exact eN|refine eM ?_
    ·first|exact eN|refine eM ?_
     rfl
    ·obtain⟨j,R⟩:=j;have L:=fun h:j<o.length=>EJ Ds o ByteArray.empty [] h;simp only;repeat'(first|exact trivial|refine eS rfl ?_|refine AB ?_|refine rX b ?_ ?_|refine rC ?_ ?_<;>intro a<;>try(cases a;done))
     ·refine⟨a,?_⟩;have:=Ua (o.take j);have P:=AAk j o;unfold Iw at this;dsimp only[Ty.den]at *;omega
     ·exact eV
     ·have v:j<o.length:=by exact eV
      have e:=L v;refine⟨⟨j+1,by omega⟩,by simp only;omega,AC [(16,.nm 16)] rfl rfl ?_ ?_⟩
      ·first|exact eN|refine eM ?_
      ·simp only[e];first|exact eN|refine eM ?_
     ·have v:o.take j=o:=As (by exact eV);rw[v];exact fI b [.tmp 4] (by rw[h1];unfold Iw;exact eR)
end
section
attribute [local go_sem] MR IL V7
def Ea (s:ByteArray) (o:List ByteArray) (x:AF):List ByteArray:=if (AR x.2.1 s&&!AR o x.1)=true then o++[x.1] else o
def CM (d:List AF):Nat→Nat→List ByteArray→List ByteArray
 | 0,_,o=>o
 | n+1,i,o=>if i<o.length then CM d n (i+1) (d.foldl (Ea (o.getD i ByteArray.empty)) o) else o
def CN (d:List AF) (s:ByteArray):List ByteArray:=if Af d s<0 then [] else Iw (CM d d.length 0 [s])
theorem SC (s:ByteArray):∀(l:List AF) (k:Nat) (x:AF),x∈l→AY x.1 s=true→0≤CT s k l
 | y :: l,k,x,a,h=>by
  simp only[CT];split
  ·omega
  ·rename_i b;rcases Do.1 a with rfl|a
   ·exact absurd h b
   ·exact SC s l (k+1) x a h
theorem Cz {d:List AF} {x:AF} (a:x∈d):0≤Af d x.1:=SC x.1 d 0 x a (CU _)
theorem x7 {d:List AF} {o:List ByteArray} (h:WG d o) (s:ByteArray) {x:AF} (b:x∈d):WG d (Ea s o x):=by
 unfold Ea;split
 ·rename_i a;rw[An,To]at a;have:=iM h (Cz b);unfold Iv at this
  rwa [At (by rw[a.2];simp)]at this
 ·exact h
theorem SD {d:List AF} (s:ByteArray):∀ {l:List AF} {o:List ByteArray},(∀x∈l,x∈d)→WG d o→WG d (l.foldl (Ea s) o)∧o.length≤(l.foldl (Ea s) o).length
 | [],o,_,h=>⟨h,If _⟩
 | x :: l,o,a,h=>by
  obtain⟨b,c⟩:=SD s (l:=l) (fun y e=>a y (by simp[e])) (x7 h s (a x (by simp)));refine⟨b,f4 ?_ c⟩;unfold Ea;split<;>simp
theorem O2 (s:ByteArray) {i:Nat}:∀ {l:List AF} {o:List ByteArray},i<o.length→(l.foldl (Ea s) o).getD i ByteArray.empty=o.getD i ByteArray.empty
 | [],_,_=>rfl
 | x :: l,o,h=>by
  have a:i<(Ea s o x).length∧(Ea s o x).getD i ByteArray.empty=o.getD i ByteArray.empty:=by
   unfold Ea;split
   ·refine⟨by rw[On];omega,?_⟩;simp only[AS];rw[AA2 h]
   ·exact⟨h,rfl⟩
  rw[TO,O2 s a.1,a.2]
def WH:Ad:={ ins:=[Ef,T9],pre:=fun(d,_,_)=>List.length d≤256,out:=fun(d,s,_)=>[.p Bt (CN d s)] }
attribute [local go_sem] WH
theorem qT:Aj Tryz.prog 130 WH:=by
 refine fK [0,1,4,5,6,7,8,9,13,19,25,47,59] Tryz.func130 Tryz.ntmps130 (AD Kr (AD F4 (AD Ow AG))) ?_;rintro w0 O0 ⟨d,s,u⟩ b-y;have y:d.length≤256:=y;simp only[WH,AL];repeat'(first|exact trivial|refine eS rfl ?_|refine AB ?_|refine rX b ?_ ?_|refine rC ?_ ?_<;>intro a<;>try(cases a;done))
 ·have h1:CN d s=[]:=by unfold CN;rw[BY a]
  exact fI b [.tmp 4] (by rw[h1];exact eR)
 ·have h1:CN d s=Iw (CM d d.length 0 [s]):=by unfold CN;rw[At (AAR.2 a)]
  have F:WG d [s]:=⟨fun x v=>by
   have:x=s:=by simpa using v
   rw[this];exact a,by simp⟩
  refine AH (ι:={x:Nat×List ByteArray//x.1≤x.2.length∧WG d x.2∧CM d (d.length-x.1) x.1 x.2=CM d d.length 0 [s]}) (fun x=>⟨[(0,.p Ef d),(5,.sr 15 T9 0 x.1.2.length),(6,.p (.int .i64) (x.1.1:Int))],[(15,.arr 9 T9 x.1.2)]⟩) (fun x=>d.length-x.1.1) ⟨(0,[s]),by simp,F,rfl⟩ (AC [(15,.nm 15)] rfl rfl ?_ ?_) (fun x=>?_)
  ·first|exact eN|refine eM ?_
  ·first|exact eN|refine eM ?_
  ·obtain⟨⟨i,o⟩,hi,q,r⟩:=x;simp only at hi q r;have P:=q.len;simp only;repeat'(first|exact trivial|refine eS rfl ?_|refine AB ?_|refine rX b ?_ ?_|refine rC ?_ ?_<;>intro a<;>try(cases a;done))
   ·have z:i<o.length:=by exact eV
    have B:CM d (d.length-(i+1)) (i+1) (d.foldl (Ea (o.getD i ByteArray.empty)) o)=CM d d.length 0 [s]:=by
     rw[←r];obtain⟨m,A⟩:∃m,d.length-i=m+1:=⟨d.length-i-1,by omega⟩;have G:d.length-(i+1)=m:=by omega
     rw[A,G];show _=if i<o.length then CM d m (i+1) (d.foldl (Ea (o.getD i ByteArray.empty)) o) else o
     rw[BY z]
    refine AH (ι:={k:Nat//k≤d.length}) (fun k=>⟨[(0,.p Ef d),(5,.sr 15 T9 0 ((d.take k.1).foldl (Ea (o.getD i ByteArray.empty)) o).length),(6,.p (.int .i64) (i:Int)),(7,.p (.int .i64) (k.1:Int))],[(15,.arr 9 T9 ((d.take k.1).foldl (Ea (o.getD i ByteArray.empty)) o))]⟩) (fun k=>d.length-k.1) ⟨0,IS _⟩ (AC [(15,.nm 15)] rfl rfl ?_ ?_) (fun k=>?_)
    ·first|exact eN|refine eM ?_
     rfl
    ·first|exact eN|refine eM ?_
     rfl
    ·obtain⟨k,hk⟩:=k;have g:=SD (o.getD i ByteArray.empty) (l:=d.take k) (o:=o) (fun x v=>AA8 v) q;have N:=g.1.len;have E:=fun h:k<d.length=>EJ (Ea (o.getD i ByteArray.empty)) d d0 o h;have D:((d.take k).foldl (Ea (o.getD i ByteArray.empty)) o).getD i ByteArray.empty=o.getD i ByteArray.empty:=O2 _ z;simp only;generalize C:(d.take k).foldl (Ea (o.getD i ByteArray.empty)) o=f at *;repeat'(first|exact trivial|refine eS rfl ?_|refine AB ?_|refine rX b ?_ ?_|refine rC ?_ ?_<;>intro a<;>try(cases a;done))
     ·have M:=g.2;refine⟨a,?_,fun _=>a⟩;dsimp only[Ty.den]at *;omega
     ·refine⟨by assumption,?_⟩;simp only[AO];dsimp only[Ty.den]at *;omega
     ·exact eV
     ·have c:k<d.length:=by exact eV
      have e:=E c;rw[D]at a;have n:Ea (o.getD i ByteArray.empty) f (d.getD k d0)=f++[(d.getD k d0).1]:=by
       unfold Ea;rw[BY (by rw[An,To];exact a)]
      rw[n]at e;refine⟨⟨k+1,by omega⟩,by simp only;omega,AC [(15,.nm 15)] rfl rfl ?_ ?_⟩
      ·simp only[e];first|exact eN|refine eM ?_
      ·simp only[e];first|exact eN|refine eM ?_
     ·exact eV
     ·have c:k<d.length:=by exact eV
      have e:=E c;rw[D]at a;have n:Ea (o.getD i ByteArray.empty) f (d.getD k d0)=f:=by
       unfold Ea;rw[At];rw[An,To];rintro⟨h1,w⟩;rw[a h1]at w;cases w
      rw[n]at e;refine⟨⟨k+1,by omega⟩,by simp only;omega,AC [(15,.nm 15)] rfl rfl ?_ ?_⟩
      ·simp only[e];first|exact eN|refine eM ?_
      ·simp only[e];first|exact eN|refine eM ?_
     ·exact eV
     ·have c:d.take k=d:=As (by exact eV);rw[c]at C;rw[C]at B;have I:=g.1;have O:=g.2;refine⟨⟨(i+1,f),by simp only;omega,I,B⟩,by simp only;omega,AC [(15,.nm 15)] rfl rfl ?_ ?_⟩
      ·first|exact eN|refine eM ?_
      ·first|exact eN|refine eM ?_
   ·have H:o=CM d d.length 0 [s]:=by
     rw[←r];cases A:d.length-i with
     | zero=>rfl
     | succ m =>
      show _=if i<o.length then _ else o
      rw[At (by exact eV)]
    rw[←H]at h1;refine AH (ι:={j:Nat//j≤o.length}) (fun j=>⟨[(0,.p Ef d),(5,.sr 15 T9 0 o.length),(8,.p Bt ((o.take j.1).foldl Ds [])),(9,.p (.int .i64) (j.1:Int))],[(15,.arr 9 T9 o)]⟩) (fun j=>o.length-j.1) ⟨0,IS _⟩ (AC [(15,.nm 15)] rfl rfl ?_ ?_) (fun j=>?_)
    ·first|exact eN|refine eM ?_
    ·first|exact eN|refine eM ?_
     rfl
    ·obtain⟨j,L⟩:=j;have J:=fun h:j<o.length=>EJ Ds o ByteArray.empty [] h;simp only;repeat'(first|exact trivial|refine eS rfl ?_|refine AB ?_|refine rX b ?_ ?_|refine rC ?_ ?_<;>intro a<;>try(cases a;done))
     ·refine⟨a,?_⟩;have:=Ua (o.take j);have K:=AAk j o;unfold Iw at this;dsimp only[Ty.den]at *;omega
     ·exact eV
     ·have t:j<o.length:=by exact eV
      have e:=J t;refine⟨⟨j+1,by omega⟩,by simp only;omega,AC [(15,.nm 15)] rfl rfl ?_ ?_⟩
      ·first|exact eN|refine eM ?_
      ·simp only[e];first|exact eN|refine eM ?_
     ·have t:o.take j=o:=As (by exact eV);rw[t];exact fI b [.tmp 4] (by rw[h1];unfold Iw;exact eR)
end
section
attribute [local go_sem] MR V7 Z4 IL
def Eb (d:List AF) (o:List ByteArray) (x:ByteArray):List ByteArray:=if 0≤Af d x then Ds o x else o
def BL (d:List AF) (l:List ByteArray):List ByteArray:=l.foldl (Eb d) []
theorem IM (d:List AF) (l:List ByteArray):(BL d l).length≤l.length:=by
 have key:∀(l o:List ByteArray),(l.foldl (Eb d) o).length≤o.length+l.length:=by
  intro l;induction l with
  | nil=>intro o;simp
  | cons x l a =>
   intro o;have h1:=a (Eb d o x);have b:(Eb d o x).length≤o.length+1:=by
    unfold Eb;split
    ·exact Ku o x
    ·omega
   simp only[TO,Is];omega
 have:=key l [];simpa[BL] using this
def O3:Ad:={ ins:=[Ef,Bt],pre:=fun(_,l,_)=>List.length l≤100000,out:=fun(d,l,_)=>[.p Bt (BL d l)] }
attribute [local go_sem] O3
theorem Xy:Aj Tryz.prog 154 O3:=by
 refine fK [0,1,4,5,6,10,19] Tryz.func154 Tryz.ntmps154 (AD Kr (AD Ow AG)) ?_;rintro w0 O0 ⟨d,l,u⟩ c-f;have f:l.length≤100000:=f;simp only[O3,AL];repeat'(first|exact trivial|refine eS rfl ?_|refine AB ?_|refine rX c ?_ ?_|refine rC ?_ ?_<;>intro a<;>try(cases a;done))
 refine AH (ι:={k:Nat//k≤l.length}) (fun k=>⟨[(0,.p Ef d),(1,.p Bt l),(5,.p Bt (BL d (l.take k.1))),(6,.p (.int .i64) (k.1:Int))],[]⟩) (fun k=>l.length-k.1) ⟨0,IS _⟩ (AC [] rfl rfl ?_ ?_) (fun k=>?_)
 ·first|exact eN|refine eM ?_
 ·first|exact eN|refine eM ?_
  rfl
 ·obtain⟨k,hk⟩:=k;have hn:=IM d (l.take k);have g:=AAk k l;have hs:=fun h:k<l.length=>EJ (Eb d) l ByteArray.empty [] h;simp only;repeat'(first|exact trivial|refine eS rfl ?_|refine AB ?_|refine rX c ?_ ?_|refine rC ?_ ?_<;>intro a<;>try(cases a;done))
  ·exact a
  ·exact⟨by assumption,by omega⟩
  ·exact eV
  ·have b:k<l.length:=by exact eV
   have e:BL d (l.take (k+1))=Eb d (BL d (l.take k)) (l.getD k ByteArray.empty):=hs b;unfold Eb at e;rw[BY a]at e;refine⟨⟨k+1,by omega⟩,by simp only;omega,AC [] rfl rfl ?_ ?_⟩
   ·first|exact eN|refine eM ?_
   ·simp only[e];first|exact eN|refine eM ?_
  ·exact eV
  ·have b:k<l.length:=by exact eV
   have e:BL d (l.take (k+1))=Eb d (BL d (l.take k)) (l.getD k ByteArray.empty):=hs b;unfold Eb at e;rw[At (Int.not_le.2 a)]at e;refine⟨⟨k+1,by omega⟩,by simp only;omega,AC [] rfl rfl ?_ ?_⟩
   ·first|exact eN|refine eM ?_
   ·simp only[e];first|exact eN|refine eM ?_
  ·have b:l.take k=l:=As (by exact eV);rw[b];exact fI c [.tmp 4]
def iO (d:List AF) (all:List ByteArray) (i:Nat) (k:Nat):Bool:=(k:Int)==(i:Int)||!AR (Jm d (all.getD i ByteArray.empty)) (all.getD k ByteArray.empty)
def NT (d:List AF) (all:List ByteArray) (i n:Nat):Bool:=(List.range n).all (iO d all i)
def NU (d:List AF) (all:List ByteArray) (n:Nat):List ByteArray:=((List.range n).filter fun i=>NT d all i all.length).map fun i=>all.getD i ByteArray.empty
def Aq (d:List AF) (l:List ByteArray):List ByteArray:=NU d (BL d l) (BL d l).length
theorem lR (d:List AF) (all:List ByteArray) (n:Nat):NU d all (n+1)=NU d all n++if NT d all n all.length=true then [all.getD n ByteArray.empty] else []:=by
 unfold NU;rw[AAb,ABx,AAM]
 congr 1
 rw[AAr,ABN];split<;>rfl
theorem Xz (d:List AF) (all:List ByteArray) (n:Nat):(NU d all n).length≤n:=by
 unfold NU;rw[AA3];exact f4 (AAZ _ _) (by simp)
theorem Z5 (d:List AF) (all:List ByteArray) (i n:Nat):NT d all i (n+1)=(NT d all i n&&iO d all i n):=by
 unfold NT;rw[AAb,ABr];simp
def Kw:Ad:={ ins:=[Ef,Bt],pre:=fun(d,l,_)=>NR d∧List.length d≤256∧List.length l≤100000,out:=fun(d,l,_)=>[.p Bt (Aq d l)] }
attribute [local go_sem] Kw
theorem SE:Aj Tryz.prog 136 Kw:=by
 refine fK [0,1,4,5,6,7,8,9,10,17,29,47] Tryz.func136 Tryz.ntmps136 (AD Xy (AD qS (AD F4 AG))) ?_;rintro w0 O0 ⟨d,l,u⟩ c-⟨n,f,g⟩;have f:d.length≤256:=f;have g:l.length≤100000:=g;have m:Aq d l=NU d (BL d l) (BL d l).length:=rfl;have o:=IM d l;simp only[Kw,AL];repeat'(first|exact trivial|refine eS rfl ?_|refine AB ?_|refine rX c ?_ ?_|refine rC ?_ ?_<;>intro a<;>try(cases a;done))
 ·exact g
 ·rw[m];generalize BL d l=all at *;refine AH (ι:={i:Nat//i≤all.length}) (fun i=>⟨[(0,.p Ef d),(5,.sr 54 T9 0 (NU d all i.1).length),(6,.p Bt all),(7,.p (.int .i64) (i.1:Int))],[(54,.arr 9 T9 (NU d all i.1))]⟩) (fun i=>all.length-i.1) ⟨0,IS _⟩ (AC [(54,.nil)] rfl rfl ?_ ?_) (fun i=>?_)
  ·first|exact eN|refine eM ?_
   rfl
  ·first|exact eN|refine eM ?_
   rfl
  ·obtain⟨i,hi⟩:=i;have q:=Xz d all i;have b:=lR d all i;simp only;repeat'(first|exact trivial|refine eS rfl ?_|refine AB ?_|refine rX c ?_ ?_|refine rC ?_ ?_<;>intro a<;>try(cases a;done))
   ·exact⟨a,n,f⟩
   ·have h:i<all.length:=by exact eV
    refine AH (ι:={k:Nat//k≤all.length}) (fun k=>⟨[(0,.p Ef d),(5,.sr 54 T9 0 (NU d all i).length),(6,.p Bt all),(7,.p (.int .i64) (i:Int)),(8,.p Bt (Jm d (all.getD i ByteArray.empty))),(9,.p .bool (NT d all i k.1)),(10,.p (.int .i64) (k.1:Int))],[(54,.arr 9 T9 (NU d all i))]⟩) (fun k=>all.length-k.1) ⟨0,IS _⟩ (AC [(54,.nm 54)] rfl rfl ?_ ?_) (fun k=>?_)
    ·first|exact eN|refine eM ?_
    ·first|exact eN|refine eM ?_
     rfl
    ·obtain⟨k,hk⟩:=k;have j:=Z5 d all i k;simp only;repeat'(first|exact trivial|refine eS rfl ?_|refine AB ?_|refine rX c ?_ ?_|refine rC ?_ ?_<;>intro a<;>try(cases a;done))
     ·exact fun _=>a
     ·exact eV
     ·have e:k<all.length:=by exact eV
      refine⟨⟨k+1,by omega⟩,by simp only;omega,AC [(54,.nm 54)] rfl rfl ?_ ?_⟩
      ·first|exact eN|refine eM ?_
      ·simp only[j];unfold iO;first|exact eN|refine eM ?_
     ·refine⟨by assumption,?_⟩;simp only[AO];omega
     ·exact eV
     ·have e:k=all.length:=by exact eV
      subst e;rw[a,BY rfl]at b;refine⟨⟨i+1,by omega⟩,by simp only;omega,AC [(54,.nm 54)] rfl rfl ?_ ?_⟩
      ·simp only[b];first|exact eN|refine eM ?_
      ·simp only[b];first|exact eN|refine eM ?_
     ·exact eV
     ·have e:k=all.length:=by exact eV
      subst e;rw[a,At (by simp),AAl]at b;refine⟨⟨i+1,by omega⟩,by simp only;omega,AC [(54,.nm 54)] rfl rfl ?_ ?_⟩
      ·simp only[b];first|exact eN|refine eM ?_
      ·simp only[b];first|exact eN|refine eM ?_
   ·have h:i=all.length:=by exact eV
    subst h;refine GJ [54] ?_;exact fI c [.tmp 4]
end
section
attribute [local go_sem] Jj
def lS (b:List Int) (x:Int):List Int:=b.set (x.tdiv 64).toNat (Bu .or .u64 (b.getD (x.tdiv 64).toNat 0) (QV .u64 1 (x.tmod 64)))
def nS (l:List Int):List Int:=l.foldl lS (List.replicate 64 0)
def x8 (x:Int):Bool:=!(decide (x<0)||decide (4095<x))
def uA (l:List Int):List Int×Int:=if l.all x8=true then (BA (nS l),0) else ([],2)
theorem NV (l:List Int):(nS l).length=64:=by
 have key:∀(l b:List Int),(l.foldl lS b).length=b.length:=by
  intro l;induction l with
  | nil=>intro b;rfl
  | cons x l a =>
   intro b;rw[TO,a];simp[lS]
 unfold nS;rw[key];simp
def ofS:Ad:={ ins:=[IJ],pre:=fun _=>True,out:=fun(l,_)=>[.p Dh (uA l).1,.p TU (uA l).2] }
theorem A3c:Aj Tryz.prog 132 ofS:=by
 refine fK [0,2,3,4,5,10,24] Tryz.func132 Tryz.ntmps132 (AD Lb AG) ?_;rintro w0 O0 ⟨l,u⟩ c ⟨⟨g,-⟩,-⟩ -;simp only[AO]at g;simp only[ofS,AL];repeat'(first|exact trivial|refine eS rfl ?_|refine AB ?_|refine rX c ?_ ?_|refine rC ?_ ?_<;>intro a<;>try(cases a;done))
 ·simp only[AO];omega
 ·refine AH (ι:={k:Nat//k≤l.length∧(l.take k).all x8=true}) (fun k=>⟨[(0,.p IJ l),(4,.sr 6 NN 0 (nS (l.take k.1)).length),(5,.p (.int .i64) (k.1:Int))],[(6,.arr 155 NN (nS (l.take k.1)))]⟩) (fun k=>l.length-k.1) ⟨0,IS _,rfl⟩ (AC [(6,.nm 6)] rfl rfl ?_ ?_) (fun k=>?_)
  ·first|exact eN|refine eM ?_
   rfl
  ·first|exact eN|refine eM ?_
   rfl
  ·obtain⟨k,hk,hf⟩:=k;have i:=NV (l.take k);have hs:∀h:k<l.length,nS (l.take (k+1))=lS (nS (l.take k)) (l.getD k 0):=fun h=>EJ lS l 0 _ h;simp only;repeat'(first|exact trivial|refine eS rfl ?_|refine AB ?_|refine rX c ?_ ?_|refine rC ?_ ?_<;>intro a<;>try(cases a;done))
   ·exact⟨a,fun _=>a⟩
   ·have b:k<l.length:=by exact eV
    have h1:uA l=([],2):=by
     unfold uA;rw[At];intro h;have:=DO.1 h _ (AE l 0 b);unfold x8 at this;rw[To,AAi,NO,NO]at this;rcases a with h|h
     ·exact this.1 h
     ·exact this.2 h
    exact fI c [.tmp 2,.tmp 3] (by rw[h1];exact eR)
   ·obtain⟨h0,h1⟩:=a;have d:Int.tdiv (l.getD k 0) 64=l.getD k 0 / 64:=AAn h0;have f:Int.tmod (l.getD k 0) 64=l.getD k 0 % 64:=ABd h0;rw[d,f,i];refine⟨?_,⟨by decide,?_,?_⟩,?_,⟨by decide,?_,?_⟩,⟨?_,?_⟩,?_,⟨by decide,?_,?_⟩,⟨?_,?_⟩,?_,?_,?_⟩<;>exact eV
   ·exact eV
   ·have b:k<l.length:=by exact eV
    have e:=hs b;refine⟨⟨k+1,by omega,?_⟩,by simp only;omega,AC [(6,.nm 6)] rfl rfl ?_ ?_⟩
    ·rw[Fb l 0 _ b,hf,ABP];unfold x8;rw[To,AAi,NO,NO];exact⟨AAR.2 a.1,AAR.2 a.2⟩
    ·simp only[e];first|exact eN|refine eM ?_
     rfl
    ·simp only[e];first|exact eN|refine eM ?_
     rw[←e,NV,NV]
   ·have b:l.take k=l:=As (by exact eV);rw[b]at hf ⊢;have h1:uA l=(BA (nS l),0):=by unfold uA;rw[BY hf]
    have j:=NV l;refine GJ [6] ?_;repeat'(first|exact trivial|refine eS rfl ?_|refine AB ?_|refine rX c ?_ ?_|refine rC ?_ ?_<;>intro a<;>try(cases a;done))
    ·rw[j];decide
    ·exact fI c [.tmp 2,.tmp 3] (by rw[h1];exact eR)
end
section
attribute [local go_sem] SB NP
def Z6 (l:List (List Int)) (b:List Int):Bool:=l.any fun x=>FO x b
def A0A:Ad:={ ins:=[Qc,Dh],pre:=fun _=>True,out:=fun(l,b,_)=>[.p .bool (Z6 l b)],lend:=true }
theorem A0B:Aj Tryz.prog 133 A0A:=by
 refine fK [0,1,4,5,9,17] Tryz.func133 Tryz.ntmps133 (AD WA AG) ?_;rintro w0 O0 ⟨l,n,u⟩ b ⟨⟨e,-⟩,-⟩ -;simp only[AO]at e;simp only[A0A,AL];repeat'(first|exact trivial|refine eS rfl ?_|refine AB ?_|refine rX b ?_ ?_|refine rC ?_ ?_<;>intro a<;>try(cases a;done))
 refine AH (ι:={k:Nat//k≤l.length∧(l.take k).any (fun x=>FO x n)=false}) (fun k=>⟨[(0,.p Qc l),(1,.p Dh n),(5,.p (.int .i64) (k.1:Int))],[]⟩) (fun k=>l.length-k.1) ⟨0,by simp⟩ (AC [] rfl rfl ?_ ?_) (fun k=>?_)
 ·first|exact eN|refine eM ?_
 ·first|exact eN|refine eM ?_
 ·obtain⟨k,hk,c⟩:=k;repeat'(first|exact trivial|refine eS rfl ?_|refine AB ?_|refine rX b ?_ ?_|refine rC ?_ ?_<;>intro a<;>try(cases a;done))
  ·exact eV
  ·have d:k<l.length:=by exact eV
   have h1:Z6 l n=true:=F3 l [] _ d a;exact fI b [.tmp 4] (by rw[h1];exact eR)
  ·exact eV
  ·have d:k<l.length:=by exact eV
   refine⟨⟨k+1,by exact eV,?_⟩,by simp only;exact eV,AC [] rfl rfl ?_ ?_⟩
   ·rw[La l [] _ d,c];exact a
   ·first|exact eN|refine eM ?_
   ·first|exact eN|refine eM ?_
  ·have hk:l.take k=l:=As (by exact eV);rw[hk]at c;have h1:Z6 l n=false:=c;exact fI b [.tmp 4] (by rw[h1];exact eR)
abbrev AP:=ByteArray×List Int
abbrev c0:AP:=(ByteArray.empty,[])
def KA (l:List AP) (i j:Int):Bool:=Eg (l.getD j.toNat c0).2 (l.getD i.toNat c0).2
def iP:Ad:={ ins:=[Iu,T3,T3],pre:=fun(l,i,j,_)=>((0:Int)≤i∧i<(List.length l:Int))∧((0:Int)≤j∧j<(List.length l:Int))∧(∀x∈(l:List AP),x.2.length≤100000),out:=fun(l,i,j,_)=>[.p .bool (KA l i j)],lend:=true }
theorem iQ:Aj Tryz.prog 103 iP:=by
 refine fK [0,1,2,6] Tryz.func103 Tryz.ntmps103 (AD UY AG) ?_;rintro w0 O0 ⟨l,i,j,u⟩ a-⟨hi,c,d⟩;simp only[iP,AL];repeat'(first|exact trivial|refine eS rfl ?_|refine AB ?_|refine rX a ?_ ?_|refine rC ?_ ?_<;>intro b<;>try(cases b;done))
 ·exact⟨c,hi,d _ (AE (l:List AP) c0 (by exact eV))⟩
 ·exact fI a [.tmp 6] (by unfold KA;exact eR)
end
section
attribute [local go_sem] SB
def Kx (s:ByteArray):Nat→List AP→Int
 | _,[]=>-1
 | k,x :: l=>if AY x.1 s=true then (k:Int) else Kx s (k+1) l
def BB (l:List AP) (s:ByteArray):Int:=Kx s 0 l
theorem Uc (s:ByteArray) (l:List AP) {k:Nat} (h:k<l.length):Kx s k (l.drop k)=if AY (l.getD k c0).1 s=true then (k:Int) else Kx s (k+1) (l.drop (k+1)):=by
 rw[OS h];have e:l.getD k c0=l[k]:=by simp[AS,h]
 rw[e];rfl
def Q1:Ad:={ ins:=[Iu,T9],pre:=fun _=>True,out:=fun(l,s,_)=>[.p T3 (BB l s)],lend:=true }
theorem Ud:Aj Tryz.prog 105 Q1:=by
 refine fK [0,1,4,5,9,18] Tryz.func105 Tryz.ntmps105 AG ?_;rintro w0 O0 ⟨l,s,u⟩ c ⟨⟨d,-⟩,-⟩ -;simp only[AO]at d;simp only[Q1,AL];repeat'(first|exact trivial|refine eS rfl ?_|refine AB ?_|refine rX c ?_ ?_|refine rC ?_ ?_<;>intro a<;>try(cases a;done))
 refine AH (ι:={k:Nat//k≤l.length∧Kx s k (l.drop k)=BB l s}) (fun k=>⟨[(0,.p Iu l),(1,.p T9 s),(5,.p (.int .i64) (k.1:Int))],[]⟩) (fun k=>l.length-k.1) ⟨0,IS _,rfl⟩ (AC [] rfl rfl ?_ ?_) (fun k=>?_)
 ·first|exact eN|refine eM ?_
 ·first|exact eN|refine eM ?_
 ·obtain⟨k,hk,hf⟩:=k;simp only;repeat'(first|exact trivial|refine eS rfl ?_|refine AB ?_|refine rX c ?_ ?_|refine rC ?_ ?_<;>intro a<;>try(cases a;done))
  ·exact a
  ·have b:k<l.length:=by exact eV
   rw[Uc s l b,BY a]at hf;exact fI c [.tmp 4] (by rw[←hf];exact eR)
  ·exact eV
  ·have b:k<l.length:=by exact eV
   rw[Uc s l b,At (by rw[a];simp)]at hf;refine⟨⟨k+1,by omega,hf⟩,by simp only;omega,AC [] rfl rfl ?_ ?_⟩
   ·first|exact eN|refine eM ?_
   ·first|exact eN|refine eM ?_
  ·have b:l.drop k=[]:=IF (by exact eV);rw[b]at hf;exact fI c [.tmp 4] (by rw[←hf];first|exact eR|refine lE ?_;rfl)
end
section
attribute [local go_sem] SB Jj
def NW (s:List Int):Nat→List AP→Int
 | _,[]=>-1
 | k,x :: l=>if FO x.2 s=true then (k:Int) else NW s (k+1) l
def GK (l:List AP) (b:List Int):Int:=NW (BA b) 0 l
theorem SF (s:List Int) (l:List AP) {k:Nat} (h:k<l.length):NW s k (l.drop k)=if FO (l.getD k c0).2 s=true then (k:Int) else NW s (k+1) (l.drop (k+1)):=by
 rw[OS h];have e:l.getD k c0=l[k]:=by simp[AS,h]
 rw[e];rfl
def Z7:Ad:={ ins:=[Iu,Dh],pre:=fun(_,b,_)=>List.length b≤100000,out:=fun(l,b,_)=>[.p T3 (GK l b)],lend:=true }
theorem qU:Aj Tryz.prog 96 Z7:=by
 refine fK [0,1,4,5,6,12,21] Tryz.func96 Tryz.ntmps96 (AD Lb (AD WA AG)) ?_;rintro w0 O0 ⟨l,b,u⟩ d ⟨⟨g,-⟩,-⟩ e;simp only[AO]at g;simp only[Z7,AL];repeat'(first|exact trivial|refine eS rfl ?_|refine AB ?_|refine rX d ?_ ?_|refine rC ?_ ?_<;>intro a<;>try(cases a;done))
 ·exact e
 ·have f:GK l b=NW (BA b) 0 l:=rfl;rw[f];generalize BA b=s at *;refine AH (ι:={k:Nat//k≤l.length∧NW s k (l.drop k)=NW s 0 l}) (fun k=>⟨[(0,.p Iu l),(5,.p Dh s),(6,.p (.int .i64) (k.1:Int))],[]⟩) (fun k=>l.length-k.1) ⟨0,IS _,rfl⟩ (AC [] rfl rfl ?_ ?_) (fun k=>?_)
  ·first|exact eN|refine eM ?_
  ·first|exact eN|refine eM ?_
  ·obtain⟨k,hk,hf⟩:=k;simp only;repeat'(first|exact trivial|refine eS rfl ?_|refine AB ?_|refine rX d ?_ ?_|refine rC ?_ ?_<;>intro a<;>try(cases a;done))
   ·exact a
   ·have c:k<l.length:=by exact eV
    rw[SF s l c,BY a]at hf;exact fI d [.tmp 4] (by rw[←hf];exact eR)
   ·exact eV
   ·have c:k<l.length:=by exact eV
    rw[SF s l c,At (by rw[a];simp)]at hf;refine⟨⟨k+1,by omega,hf⟩,by simp only;omega,AC [] rfl rfl ?_ ?_⟩
    ·first|exact eN|refine eM ?_
    ·first|exact eN|refine eM ?_
   ·have c:l.drop k=[]:=IF (by exact eV);rw[c]at hf;exact fI d [.tmp 4] (by rw[←hf];first|exact eR|refine lE ?_;rfl)
end
section
attribute [local go_sem] SB
def X0 (s:ByteArray):List (ByteArray×ByteArray)→ByteArray×Bool
 | []=>(ByteArray.empty,false)
 | x :: l=>if AY x.1 s=true then (x.2,true) else X0 s l
def Ck (x:AF) (s:ByteArray):ByteArray×Bool:=X0 s x.2.2
theorem Ue (s:ByteArray) (l:List (ByteArray×ByteArray)) {k:Nat} (h:k<l.length):X0 s (l.drop k)=if AY (l.getD k (ByteArray.empty,ByteArray.empty)).1 s=true then ((l.getD k (ByteArray.empty,ByteArray.empty)).2,true) else X0 s (l.drop (k+1)):=by
 rw[OS h];have e:l.getD k (ByteArray.empty,ByteArray.empty)=l[k]:=by simp[AS,h]
 rw[e];rfl
def WI:Ad:={ ins:=[lG,T9],pre:=fun _=>True,out:=fun(x,s,_)=>[.p T9 (Ck x s).1,.p .bool (Ck x s).2],lend:=true }
theorem X2:Aj Tryz.prog 123 WI:=by
 refine fK [0,1,2,4,5,6,11,21] Tryz.func123 Tryz.ntmps123 AG ?_;rintro w0 O0 ⟨⟨nm,sup,a⟩,s,u⟩ d ⟨⟨-,-,f,-⟩,-⟩ -;simp only[AO]at f;simp only[WI,AL];repeat'(first|exact trivial|refine eS rfl ?_|refine AB ?_|refine rX d ?_ ?_|refine rC ?_ ?_<;>intro b<;>try(cases b;done))
 have e:({ data:=#[] }:ByteArray).size≤AO:=by decide
 rw[BY e];refine AH (ι:={k:Nat//k≤a.length∧X0 s (a.drop k)=Ck (nm,sup,a) s}) (fun k=>⟨[(1,.p T9 s),(2,.bp 2 [] 0),(6,.p (.int .i64) (k.1:Int))],[(2,.box 111 true [.p T9 nm,.p Bt sup,.p Xm a])]⟩) (fun k=>a.length-k.1) ⟨0,IS _,rfl⟩ (AC [(2,.nm 2)] rfl rfl ?_ ?_) (fun k=>?_)
 ·first|exact eN|refine eM ?_
 ·first|exact eN|refine eM ?_
 ·obtain⟨k,hk,hf⟩:=k;simp only;repeat'(first|exact trivial|refine eS rfl ?_|refine AB ?_|refine rX d ?_ ?_|refine rC ?_ ?_<;>intro b<;>try(cases b;done))
  ·exact b
  ·assumption
  ·have c:k<a.length:=by exact eV
   rw[Ue s a c,BY b]at hf;exact fI d [.tmp 4,.tmp 5] (by rw[←hf];exact eR)
  ·exact eV
  ·have c:k<a.length:=by exact eV
   rw[Ue s a c,At (by rw[b];simp)]at hf;refine⟨⟨k+1,by omega,hf⟩,by simp only;omega,AC [(2,.nm 2)] rfl rfl ?_ ?_⟩
   ·first|exact eN|refine eM ?_
   ·first|exact eN|refine eM ?_
  ·have c:a.drop k=[]:=IF (by exact eV);rw[c]at hf;rw[BY e];exact fI d [.tmp 4,.tmp 5] (by rw[←hf];first|exact eR|refine lE ?_;exact⟨rfl,rfl⟩)
end
section
attribute [local go_sem] Z3
def FF (a b:AP):Bool:=decide (((G9 b.2).length:Int)<((G9 a.2).length:Int))||((G9 a.2).length:Int)==((G9 b.2).length:Int)&&GN a.1 b.1
def WJ:Ad:={ ins:=[V3,V3],pre:=fun(a,b,_)=>List.length (a:AP).2≤100000∧List.length (b:AP).2≤100000,out:=fun(a,b,_)=>[.p .bool (FF a b)],lend:=true }
theorem lT:Aj Tryz.prog 102 WJ:=by
 refine fK [0,1,2,3,4,5,6] Tryz.func102 Tryz.ntmps102 (AD qO AG) ?_;rintro w0 O0 ⟨⟨d,ac⟩,⟨f,e⟩,u⟩ a-⟨ha,c⟩;simp only[WJ,AL];repeat'(first|exact trivial|refine eS rfl ?_|refine AB ?_|refine rX a ?_ ?_|refine rC ?_ ?_<;>intro b<;>try(cases b;done))
 ·exact ha
 ·exact c
 ·exact fI a [.tmp 4] (by unfold FF;exact eR)
end
section
attribute [local go_sem] WH IL ofS
def MU (low all:List ByteArray) (n:Nat):List Int:=((List.range n).filter fun(i:Nat)=>AR low (all.getD i ByteArray.empty)).map fun(i:Nat)=>(i:Int)
theorem lU (low all:List ByteArray) (n:Nat):MU low all (n+1)=MU low all n++if AR low (all.getD n ByteArray.empty)=true then [(n:Int)] else []:=by
 unfold MU;rw[AAb,ABx,AAM]
 congr 1
 rw[AAr,ABN];split<;>rfl
theorem qV (low all:List ByteArray) (n:Nat):(MU low all n).length≤n:=by
 unfold MU;rw[AA3];exact f4 (AAZ _ _) (by simp)
def ED (d:List AF) (all:List ByteArray) (s:ByteArray):List Int:=(uA (MU (CN d s) all all.length)).1
def qW:Ad:={ ins:=[Ef,Bt,T9],pre:=fun(d,l,_,_)=>List.length d≤256∧List.length l≤100000,out:=fun(d,l,s,_)=>[.p Dh (ED d l s)] }
theorem x9:Aj Tryz.prog 99 qW:=by
 refine fK [0,1,2,6,7,8,9,10,18,26] Tryz.func99 Tryz.ntmps99 (AD qT (AD F4 (AD A3c AG))) ?_;rintro w0 O0 ⟨d,l,s,u⟩ b-⟨g,e⟩;have e:l.length≤100000:=e;have f:ED d l s=(uA (MU (CN d s) l l.length)).1:=rfl;simp only[qW,AL];repeat'(first|exact trivial|refine eS rfl ?_|refine AB ?_|refine rX b ?_ ?_|refine rC ?_ ?_<;>intro a<;>try(cases a;done))
 ·exact g
 ·rw[f];generalize CN d s=low at *;refine AH (ι:={n:Nat//n≤l.length}) (fun n=>⟨[(0,.p Ef d),(1,.p Bt l),(2,.p T9 s),(7,.p Bt low),(8,.sr 30 T3 0 (MU low l n.1).length),(9,.p (.int .i64) (n.1:Int))],[(30,.arr 3 T3 (MU low l n.1))]⟩) (fun n=>l.length-n.1) ⟨0,IS _⟩ (AC [(30,.nil)] rfl rfl ?_ ?_) (fun n=>?_)
  ·first|exact eN|refine eM ?_
   rfl
  ·first|exact eN|refine eM ?_
   rfl
  ·obtain⟨n,hn⟩:=n;have h:=qV low l n;have hs:=lU low l n;simp only;repeat'(first|exact trivial|refine eS rfl ?_|refine AB ?_|refine rX b ?_ ?_|refine rC ?_ ?_<;>intro a<;>try(cases a;done))
   ·exact a
   ·rw[a,BY rfl]at hs;simp only[AO];dsimp only[Ty.den]at *;omega
   ·exact eV
   ·have c:n<l.length:=by exact eV
    rw[a,BY rfl]at hs;refine⟨⟨n+1,by omega⟩,by simp only;omega,AC [(30,.nm 30)] rfl rfl ?_ ?_⟩
    ·simp only[hs];first|exact eN|refine eM ?_
    ·simp only[hs];first|exact eN|refine eM ?_
   ·exact eV
   ·have c:n<l.length:=by exact eV
    rw[a,At (by simp),AAl]at hs;refine⟨⟨n+1,by omega⟩,by simp only;omega,AC [(30,.nm 30)] rfl rfl ?_ ?_⟩
    ·simp only[hs];first|exact eN|refine eM ?_
    ·simp only[hs];first|exact eN|refine eM ?_
   ·have c:n=l.length:=by exact eV
    subst c;refine GJ [30] ?_;repeat'(first|exact trivial|refine eS rfl ?_|refine AB ?_|refine rX b ?_ ?_|refine rC ?_ ?_<;>intro a<;>try(cases a;done))
    exact fI b [.tmp 6]
end
section
attribute [local go_sem] V7
def NX (o:List ByteArray) (f:ByteArray×ByteArray):List ByteArray:=Ds o f.1
def O4 (o:List ByteArray) (x:AF):List ByteArray:=x.2.2.foldl NX o
def BC (d:List AF):List ByteArray:=d.foldl O4 []
theorem Uf (l:List (ByteArray×ByteArray)):∀o:List ByteArray,(l.foldl NX o).length≤o.length+l.length:=by
 induction l with
 | nil=>intro o;simp
 | cons x l a =>
  intro o;have h1:=a (NX o x);have b:(NX o x).length≤o.length+1:=Ku o x.1;simp only[TO,Is];omega
theorem Z8 {d:List AF} (h:∀x∈d,x.2.2.length≤256):∀(l:List AF),(∀x∈l,x∈d)→∀o:List ByteArray,(l.foldl O4 o).length≤o.length+256*l.length:=by
 intro l;induction l with
 | nil=>intro _ o;simp
 | cons x l c =>
  intro a o;have h1:=c (fun y b=>a y (by simp[b])) (O4 o x);have e:=Uf x.2.2 o;have f:=h x (a x (by simp));have g:(O4 o x).length=(x.2.2.foldl NX o).length:=rfl;simp only[TO,Is];omega
def SG:Ad:={ ins:=[Ef],pre:=fun(d,_)=>List.length d≤256∧(∀x∈(d:List AF),x.2.2.length≤256),out:=fun(d,_)=>[.p Bt (BC d)] }
theorem SH:Aj Tryz.prog 94 SG:=by
 refine fK [0,2,3,4,5,9,19] Tryz.func94 Tryz.ntmps94 (AD Ow AG) ?_;rintro w0 O0 ⟨d,u⟩ c-⟨f,m⟩;have f:d.length≤256:=f;simp only[SG,AL];repeat'(first|exact trivial|refine eS rfl ?_|refine AB ?_|refine rX c ?_ ?_|refine rC ?_ ?_<;>intro a<;>try(cases a;done))
 refine AH (ι:={i:Nat//i≤d.length}) (fun i=>⟨[(0,.p Ef d),(3,.p Bt (BC (d.take i.1))),(4,.p (.int .i64) (i.1:Int))],[]⟩) (fun i=>d.length-i.1) ⟨0,IS _⟩ (AC [] rfl rfl ?_ ?_) (fun i=>?_)
 ·first|exact eN|refine eM ?_
 ·first|exact eN|refine eM ?_
  rfl
 ·obtain⟨i,hi⟩:=i;have l:=Z8 m (d.take i) (fun x h=>AA8 h) [];have t:=AAk i d;have hs:=fun h:i<d.length=>EJ O4 d d0 [] h;have g:∀e,BC e=e.foldl O4 []:=fun _=>rfl;simp only;repeat'(first|exact trivial|refine eS rfl ?_|refine AB ?_|refine rX c ?_ ?_|refine rC ?_ ?_<;>intro a<;>try(cases a;done))
  ·have j:i<d.length:=by exact eV
   have v:=m _ (AE d d0 j);have hs:=hs j;rw[←g,←g]at hs;rw[←g]at l;generalize BC (d.take i)=o at *;refine AH (ι:={k:Nat//k≤(d.getD i d0).2.2.length}) (fun k=>⟨[(0,.p Ef d),(3,.p Bt (((d.getD i d0).2.2.take k.1).foldl NX o)),(4,.p (.int .i64) (i:Int)),(5,.p (.int .i64) (k.1:Int))],[]⟩) (fun k=>(d.getD i d0).2.2.length-k.1) ⟨0,IS _⟩ (AC [] rfl rfl ?_ ?_) (fun k=>?_)
   ·first|exact eN|refine eM ?_
   ·first|exact eN|refine eM ?_
    rfl
   ·obtain⟨k,hk⟩:=k;have r:k≤(d.getD i d0).2.2.length:=hk;have q:=Uf ((d.getD i d0).2.2.take k) o;have s:=AAk k (d.getD i d0).2.2;have n:=fun h:k<(d.getD i d0).2.2.length=>EJ NX (d.getD i d0).2.2 (ByteArray.empty,ByteArray.empty) o h;simp only;repeat'(first|exact trivial|refine eS rfl ?_|refine AB ?_|refine rX c ?_ ?_|refine rC ?_ ?_<;>intro a<;>try(cases a;done))
    ·assumption
    ·refine⟨by assumption,a,?_⟩;simp only[AAS]at l;dsimp only[Ty.den]at *;omega
    ·have h1:(k:Int)<((d.getD i d0).2.2.length:Int):=a;exact eV
    ·have b:k<(d.getD i d0).2.2.length:=OM.1 a;have e:=n b;refine⟨⟨k+1,b⟩,by simp only;omega,AC [] rfl rfl ?_ ?_⟩
     ·first|exact eN|refine eM ?_
     ·simp only[e];unfold NX;first|exact eN|refine eM ?_
    ·have:=f;exact eV
    ·have b:(d.getD i d0).2.2.take k=(d.getD i d0).2.2:=As (iF.1 a);have e:BC (d.take (i+1))=((d.getD i d0).2.2.take k).foldl NX o:=by rw[b];exact hs
     refine⟨⟨i+1,j⟩,by simp only;omega,AC [] rfl rfl ?_ ?_⟩
     ·first|exact eN|refine eM ?_
     ·simp only[e];first|exact eN|refine eM ?_
  ·have b:d.take i=d:=As (by exact eV);rw[b];exact fI c [.tmp 2]
end
theorem Ug {d:List AF} {l:List ByteArray}:∀ {r:List ByteArray} {k:Nat},Qd d l k r=0→∀s∈r,0≤Af d s
 | [],_,_,s,hs=>by cases hs
 | x :: r,k,h,s,hs=>by
  simp only[Qd]at h;split at h
  ·cases h
  ·rename_i h1;split at h
   ·cases h
   ·rcases Do.1 hs with rfl|hs
    ·omega
    ·exact Ug h s hs
theorem NY {d:List AF}:∀ {l:List AF},Jk d l=0→∀x∈l,∀s∈x.2.1,0≤Af d s
 | [],_,x,a=>by cases a
 | y :: l,h,x,a=>by
  simp only[Jk]at h;split at h
  ·rename_i h1;exact absurd h h1
  ·rename_i h1;rcases Do.1 a with rfl|a
   ·exact Ug (By h1)
   ·exact NY h x a
theorem qX {d:List AF} (h:Jl d=0):NR d:=NY h
theorem Ao {d:List AF} (h:Ax d=0):NR d∧d.length≤256∧HD d=1∧CL d=0∧d.length≤(BS d).length:=by
 unfold Ax at h;split at h
 ·rename_i h1;exact absurd h h1
 ·rename_i h1;split at h
  ·rename_i a;exact absurd h a
  ·rename_i a;split at h
   ·rename_i b;exact absurd h b
   ·rename_i b;split at h
    ·cases h
    ·rename_i c;split at h
     ·cases h
     ·rename_i e;exact⟨qX (By b),QD (By h1),By c,By a,by omega⟩
section
attribute [local go_sem] A0A qL
def Fc (l:List (List Int)) (i k:Nat):List (List Int) :=
 if (decide (0<((Dt (l.getD i []) (l.getD k [])).length:Int))&&!Z6 l (Dt (l.getD i []) (l.getD k [])))=true then l++[Dt (l.getD i []) (l.getD k [])] else l
def Fd (i:Nat):Nat→Nat→List (List Int)→List (List Int)
 | 0,_,l=>l
 | n+1,k,l=>if l.length≤256 then Fd i n (k+1) (Fc l i k) else l
def HF:Nat→Nat→List (List Int)→List (List Int)
 | 0,_,l=>l
 | n+1,i,l=>if i<l.length∧l.length≤256 then HF n (i+1) (Fd i i 0 l) else l
def Ai (c:List (List Int)):List (List Int):=HF 257 0 c
theorem X3 (a b:List Int):(Dt a b).length≤a.length:=by
 unfold Dt BA;have:=EC .and a b a.length;rw[OR];omega
structure z4 (l:List (List Int)):Prop where
 len:l.length≤257
 wid:∀c∈l,c.length≤64
theorem Ky {l:List (List Int)} (h:∀c∈l,c.length≤64) (k:Nat):(l.getD k []).length≤64:=by
 rw[AS];cases a:l[k]? with
 | none=>simp
 | some x=>exact h x (AA9 a)
theorem X4 {l:List (List Int)} (h:∀c∈l,c.length≤64) (i k:Nat):∀c∈Fc l i k,c.length≤64:=by
 unfold Fc;split
 ·intro c a;rcases ON.1 a with a|a
  ·exact h c a
  ·have:c=Dt (l.getD i []) (l.getD k []):=by simpa using a
   rw[this];exact f4 (X3 _ _) (Ky h i)
 ·exact h
theorem qY (l:List (List Int)) (i k:Nat):l.length≤(Fc l i k).length∧(Fc l i k).length≤l.length+1:=by
 unfold Fc;split
 ·simp
 ·exact⟨If _,Nat.le_succ _⟩
def WK:Ad:={ ins:=[Qc],pre:=fun(c,_)=>List.length c≤256∧∀x∈(c:List (List Int)),x.length≤64,out:=fun(c,_)=>[.p Qc (Ai c)] }
theorem lV:Aj Tryz.prog 100 WK:=by
 refine fK [0,2,3,4,5,6,18,28,48] Tryz.func100 Tryz.ntmps100 (AD Z0 (AD A0B AG)) ?_;rintro w0 O0 ⟨c,u⟩ d-⟨n,t⟩;have n:c.length≤256:=n;simp only[WK,AL];repeat'(first|exact trivial|refine eS rfl ?_|refine AB ?_|refine rX d ?_ ?_|refine rC ?_ ?_<;>intro a<;>try(cases a;done))
 ·simp only[AO];dsimp only[Ty.den]at *;omega
 ·refine AH (ι:={x:Nat×List (List Int)//x.1≤256∧z4 x.2∧HF (257-x.1) x.1 x.2=Ai c}) (fun x=>⟨[(3,.sr 7 Dh 0 x.1.2.length),(4,.p (.int .i64) (x.1.1:Int))],[(7,.arr 81 Dh x.1.2)]⟩) (fun x=>257-x.1.1) ⟨(0,c),by simp,⟨by simp only;omega,t⟩,rfl⟩ (AC [(7,.nm 7)] rfl rfl ?_ ?_) (fun x=>?_)
  ·first|exact eN|refine eM ?_
  ·first|exact eN|refine eM ?_
  ·obtain⟨⟨i,l⟩,hi,⟨q,s⟩,f⟩:=x;simp only at hi q s f;simp only;repeat'(first|exact trivial|refine eS rfl ?_|refine AB ?_|refine rX d ?_ ?_|refine rC ?_ ?_<;>intro a<;>try(cases a;done))
   ·have w:i<l.length:=by omega
    have z:l.length≤256:=by omega
    have o:HF (256-i) (i+1) (Fd i i 0 l)=Ai c:=by
     have e:257-i=(256-i)+1:=by omega
     rw[←f,e];show _=if i<l.length∧l.length≤256 then HF (256-i) (i+1) (Fd i i 0 l) else l
     rw[BY ⟨w,z⟩]
    refine AH (ι:={y:Nat×List (List Int)//y.1≤i∧z4 y.2∧l.length≤y.2.length∧Fd i (i-y.1) y.1 y.2=Fd i i 0 l}) (fun y=>⟨[(3,.sr 7 Dh 0 y.1.2.length),(4,.p (.int .i64) (i:Int)),(5,.p (.int .i64) (y.1.1:Int))],[(7,.arr 81 Dh y.1.2)]⟩) (fun y=>i-y.1.1) ⟨(0,l),by simp,⟨q,s⟩,If _,rfl⟩ (AC [(7,.nm 7)] rfl rfl ?_ ?_) (fun y=>?_)
    ·first|exact eN|refine eM ?_
    ·first|exact eN|refine eM ?_
    ·obtain⟨⟨k,m⟩,hk,⟨g,b⟩,r,hf⟩:=y;simp only at hk g b r hf;simp only;repeat'(first|exact trivial|refine eS rfl ?_|refine AB ?_|refine rX d ?_ ?_|refine rC ?_ ?_<;>intro a<;>try(cases a;done))
     ·exact⟨by exact eV,by exact eV,f4 (Ky b i) (by decide)⟩
     ·simp only[AO];omega
     ·omega
     ·have e:Fc m i k=m++[Dt (m.getD i []) (m.getD k [])]:=by
       unfold Fc;rw[BY];rw[An,GO,To];exact a
      have C:=X4 b i k;have D:=qY m i k;refine⟨⟨(k+1,Fc m i k),by simp only;omega,⟨by simp only;omega,C⟩,by simp only;omega,?_⟩,by simp only;omega,AC [(7,.nm 7)] rfl rfl ?_ ?_⟩
      ·simp only;rw[←hf,show i-k=(i-(k+1))+1 by omega];show _=if m.length≤256 then Fd i (i-(k+1)) (k+1) (Fc m i k) else m
       rw[BY (by omega)]
      ·simp only[e];first|exact eN|refine eM ?_
      ·simp only[e];first|exact eN|refine eM ?_
     ·omega
     ·have e:Fc m i k=m:=by
       unfold Fc;rw[At];rw[An,GO,To];intro h;rw[a h.1]at h;exact absurd h.2 (by simp)
      refine⟨⟨(k+1,m),by simp only;omega,⟨g,b⟩,r,?_⟩,by simp only;omega,AC [(7,.nm 7)] rfl rfl ?_ ?_⟩
      ·simp only;rw[←hf,show i-k=(i-(k+1))+1 by omega];show _=if m.length≤256 then Fd i (i-(k+1)) (k+1) (Fc m i k) else m
       rw[BY (by omega),e]
      ·first|exact eN|refine eM ?_
      ·first|exact eN|refine eM ?_
     ·omega
     ·have B:m=Fd i i 0 l:=by
       rw[←hf];cases A:i-k with
       | zero=>rfl
       | succ j =>
        show _=if m.length≤256 then _ else m
        rw[At (by omega)]
      rw[←B]at o;refine⟨⟨(i+1,m),by simp only;omega,⟨g,b⟩,?_⟩,by simp only;omega,AC [(7,.nm 7)] rfl rfl ?_ ?_⟩
      ·simp only;rw[show 257-(i+1)=256-i by omega];exact o
      ·first|exact eN|refine eM ?_
      ·first|exact eN|refine eM ?_
   ·have v:l=Ai c:=by
     rw[←f];cases A:257-i with
     | zero=>rfl
     | succ m =>
      show _=if i<l.length∧l.length≤256 then _ else l
      rw[At (by omega)]
    rw[←v];refine GJ [7] ?_;exact fI d [.tmp 2]
theorem cs0 {α:Type} (x y:α):(if ({ data:=#[] }:ByteArray).size≤AO then x else y)=x:=BY (by show 0≤AO;decide)
theorem cs1 {α:Type} (a:UInt8) (x y:α):(if ({ data:=#[a] }:ByteArray).size≤AO then x else y)=x:=BY (by show 1≤AO;decide)
theorem cs2 {α:Type} (a b:UInt8) (x y:α):(if ({ data:=#[a,b] }:ByteArray).size≤AO then x else y)=x:=BY (by show 2≤AO;decide)
theorem cs3 {α:Type} (a b c:UInt8) (x y:α):(if ({ data:=#[a,b,c] }:ByteArray).size≤AO then x else y)=x:=BY (by show 3≤AO;decide)
theorem cs4 {α:Type} (a b c d:UInt8) (x y:α):(if ({ data:=#[a,b,c,d] }:ByteArray).size≤AO then x else y)=x:=BY (by show 4≤AO;decide)
theorem cs5 {α:Type} (a b c d e:UInt8) (x y:α):(if ({ data:=#[a,b,c,d,e] }:ByteArray).size≤AO then x else y)=x:=BY (by show 5≤AO;decide)
theorem cs6 {α:Type} (a b c d e f:UInt8) (x y:α):(if ({ data:=#[a,b,c,d,e,f] }:ByteArray).size≤AO then x else y)=x:=BY (by show 6≤AO;decide)
theorem cs7 {α:Type} (a b c d e f g:UInt8) (x y:α):(if ({ data:=#[a,b,c,d,e,f,g] }:ByteArray).size≤AO then x else y)=x:=BY (by show 7≤AO;decide)
theorem cs8 {α:Type} (a b c d e f g h:UInt8) (x y:α):(if ({ data:=#[a,b,c,d,e,f,g,h] }:ByteArray).size≤AO then x else y)=x:=BY (by show 8≤AO;decide)
end
def A4 (b:List Int) (i:Nat):Bool:=(b.getD (i / 64) 0).toNat.testBit (i % 64)
def qZ (x:Int):Prop:=0≤x∧x<18446744073709551616
theorem Ex {x:Int} (h:qZ x):(BitVec.ofInt 64 x).toNat=x.toNat:=by
 rw[BitVec.toNat_ofInt];have h1:=h.1;have a:=h.2;rw[Int.emod_eq_of_lt h1 (by simpa using a)]
theorem NZ {n:Nat} (h:n<18446744073709551616):IntKind.u64.wrap (n:Int)=n:=JV (by rw[Ht];omega)
theorem yA {x y:Int} (a:qZ x) (b:qZ y):Bu .or .u64 x y=((x.toNat ||| y.toNat:Nat):Int):=by
 have h1:(BitVec.ofInt IntKind.u64.bits x ||| BitVec.ofInt IntKind.u64.bits y).toNat=x.toNat ||| y.toNat:=by
  rw[BitVec.toNat_or];show (BitVec.ofInt 64 x).toNat ||| (BitVec.ofInt 64 y).toNat=_
  rw[Ex a,Ex b]
 unfold Bu;simp only;rw[h1];have e:(18446744073709551616:Nat)=2 ^ 64:=by decide
 refine NZ ?_;rw[e];refine Nat.or_lt_two_pow ?_ ?_
 ·have:=a.2;have:=a.1;omega
 ·have:=b.2;have:=b.1;omega
theorem HG {x y:Int} (a:qZ x) (b:qZ y):Bu .and .u64 x y=((x.toNat &&& y.toNat:Nat):Int):=by
 have h1:(BitVec.ofInt IntKind.u64.bits x &&& BitVec.ofInt IntKind.u64.bits y).toNat=x.toNat &&& y.toNat:=by
  rw[BitVec.toNat_and];show (BitVec.ofInt 64 x).toNat &&& (BitVec.ofInt 64 y).toNat=_;rw[Ex a,Ex b]
 unfold Bu;simp only;rw[h1];refine NZ (AC9 AC4 ?_);have:=a.2;have:=a.1;omega
theorem O5 {x y:Int}:Bu .andNot .u64 x y=((BitVec.ofInt 64 x &&& ~~~BitVec.ofInt 64 y).toNat:Int):=by
 show IntKind.u64.wrap ((BitVec.ofInt 64 x &&& ~~~BitVec.ofInt 64 y).toNat:Int)=_;exact NZ (BitVec.isLt _)
theorem QE {x y:Int} (d:qZ x) (e:qZ y) (h:Bu .andNot .u64 x y=0) {r:Nat} (c:r<64) (b:x.toNat.testBit r=true):y.toNat.testBit r=true:=by
 rw[O5]at h;have h1:(BitVec.ofInt 64 x &&& ~~~BitVec.ofInt 64 y).toNat=0:=by omega
 have a:(BitVec.ofInt 64 x &&& ~~~BitVec.ofInt 64 y).toNat.testBit r=false:=by rw[h1];exact Nat.zero_testBit r
 rw[ABm,BitVec.getLsbD_and,BitVec.getLsbD_not,←ABm,←ABm,Ex d,Ex e,b]at a;simpa[c] using a
theorem X5 {x:Int}:Bu .andNot .u64 x x=0:=by
 rw[O5];simp
theorem MV {b:List Int}:∀ {n:Nat},∀k,CH b n≤k→k<n→b.getD k 0=0
 | 0,k,_,h=>by omega
 | n+1,k,h1,c=>by
  unfold CH at h1;split at h1
  ·rename_i a;by_cases hk:k=n
   ·rw[hk];exact a
   ·exact MV k h1 (by omega)
  ·omega
theorem Na (b:List Int) (k:Nat):(BA b).getD k 0=b.getD k 0:=by
 unfold BA;by_cases h:k<CH b b.length
 ·simp[AS,iN,h]
 ·have h1:(List.take (CH b b.length) b).getD k 0=0:=by
   rw[AS,iN,At h];rfl
  rw[h1];by_cases a:k<b.length
  ·exact(MV k (by omega) a).symm
  ·rw[AS,iS (by omega)];rfl
theorem MW (b:List Int) (i:Nat):A4 (BA b) i=A4 b i:=by unfold A4;rw[Na]
def HH (b:List Int):Prop:=∀x∈b,qZ x
theorem A8 {b:List Int} (h:HH b) (k:Nat):qZ (b.getD k 0):=by
 rw[AS];cases a:b[k]? with
 | none=>exact⟨by simp,by simp⟩
 | some x=>exact h x (AA9 a)
theorem MX {b:List Int} (h:HH b):HH (BA b):=fun x a=>h x (AA8 a)
theorem Ix (b:List Int) (k:Nat):FN b (k:Int)=b.getD k 0:=by
 unfold FN;split
 ·simp
 ·rename_i h;rw[AS,iS (by omega)];rfl
theorem Lc (op:BinOp) (a b:List Int) {n k:Nat} (h:k<n):(Fa op a b n).getD k 0=Bu op .u64 (a.getD k 0) (b.getD k 0):=by
 unfold Fa;rw[AS,AAW,ABG h];show Bu op .u64 (a.getD k 0) (FN b (k:Int))=_;rw[Ix]
theorem WL {a b:List Int} (h:Eg a b=true) {k:Nat} (hk:k<a.length):Bu .andNot .u64 (a.getD k 0) (b.getD k 0)=0:=by
 unfold Eg Oy BA at h;have h1:(List.take (CH (Fa .andNot a b a.length) (Fa .andNot a b a.length).length) (Fa .andNot a b a.length)).length=0:=by
  have:=AA0.1 h;omega
 rw[OR,EC]at h1;have d:=SA (Fa .andNot a b a.length) a.length;have c:=MV (b:=Fa .andNot a b a.length) (n:=a.length) k (by omega) hk;rw[Lc _ _ _ hk]at c;exact c
theorem Kz {a b:List Int} (ha:HH a) (c:HH b) (h:Eg a b=true) {i:Nat} (hi:A4 a i=true):A4 b i=true:=by
 by_cases hk:i / 64<a.length
 ·exact QE (A8 ha _) (A8 c _) (WL h hk) (ACC _ (by decide)) hi
 ·exfalso;unfold A4 at hi;rw[AS,iS (by omega)]at hi;simp at hi
theorem O6 {b:List Int}:∀ {n:Nat},(∀k,k<n→b.getD k 0=0)→CH b n=0
 | 0,_=>rfl
 | n+1,h=>by
  unfold CH;rw[BY (h n (by omega))];exact O6 fun k hk=>h k (by omega)
theorem X6 (a:List Int):Eg a a=true:=by
 unfold Eg Oy BA;have h1:CH (Fa .andNot a a a.length) (Fa .andNot a a a.length).length=0:=by
  rw[EC];exact O6 fun k hk=>by rw[Lc _ _ _ hk];exact X5
 rw[h1];rfl
theorem X7 (a:List Int):Cr a a=true:=by unfold Cr;rw[X6];rfl
theorem yB {b:List Int} (j:HH b) (m:b.length=64) {x:Int} (h0:0≤x) (h1:x≤4095) (i:Nat):A4 (lS b x) i=(A4 b i||decide (x=(i:Int))):=by
 have d:Int.tdiv x 64=x / 64:=AAn h0;have e:Int.tmod x 64=x % 64:=ABd h0;obtain⟨n,rfl⟩:∃n:Nat,x=(n:Int):=⟨x.toNat,by omega⟩;have hs:QV .u64 1 ((n:Int) % 64)=((2 ^ (n % 64):Nat):Int):=by
  unfold QV;have f:min ((n:Int) % 64).toNat IntKind.u64.bits=n % 64:=by
   have:((n:Int) % 64).toNat=n % 64:=by omega
   rw[this];have:IntKind.u64.bits=64:=rfl;omega
  rw[f,Int.one_mul];have:(2:Int) ^ (n % 64)=((2 ^ (n % 64):Nat):Int):=by simp
  rw[this];refine NZ ?_;have a:(2:Nat) ^ (n % 64)<2 ^ 64:=Nat.pow_lt_pow_right (by decide) (ACC _ (by decide));exact a
 have l:qZ (QV .u64 1 ((n:Int) % 64)):=by
  rw[hs];have a:(2:Nat) ^ (n % 64)<2 ^ 64:=Nat.pow_lt_pow_right (by decide) (ACC _ (by decide));have g:(2:Nat) ^ 64=18446744073709551616:=by decide
  refine⟨oF _,?_⟩;rw[g]at a;exact OM.2 a
 have hn:((n:Int) / 64).toNat=n / 64:=by omega
 unfold lS A4;rw[d,e,hn];by_cases c:i / 64=n / 64
 ·have k:n / 64<b.length:=by omega
  rw[c];have:(b.set (n / 64) (Bu .or .u64 (b.getD (n / 64) 0) (QV .u64 1 ((n:Int) % 64)))).getD (n / 64) 0=Bu .or .u64 (b.getD (n / 64) 0) (QV .u64 1 ((n:Int) % 64)):=by
   simp[AS,k]
  rw[this,yA (A8 j _) l,hs];simp only[AA4,Nat.testBit_or,Nat.testBit_two_pow]
  congr 1
  rw[decide_eq_decide];omega
 ·have:(b.set (n / 64) (Bu .or .u64 (b.getD (n / 64) 0) (QV .u64 1 ((n:Int) % 64)))).getD (i / 64) 0=b.getD (i / 64) 0:=by
   simp[AS,AAp,ACE c]
  rw[this];have:decide ((n:Int)=(i:Int))=false:=by
   rw[NO];intro h;exact c (by omega)
  rw[this,Bool.or_false]
theorem yC {b:List Int} (c:HH b) (x:Int):HH (lS b x):=by
 intro y a;unfold lS at a;rcases AAX a with h|h
 ·exact c y h
 ·rw[h];have:=LN .u64 ((BitVec.ofInt IntKind.u64.bits (b.getD (x.tdiv 64).toNat 0) ||| BitVec.ofInt IntKind.u64.bits (QV .u64 1 (x.tmod 64))).toNat:Int);rw[Ht]at this;exact⟨this.1,by have:=this.2;show _<_;exact ACh this (by decide)⟩
theorem yD {l:List Int} (h:l.all x8=true) (i:Nat):A4 (nS l) i=decide ((i:Int)∈l)∧HH (nS l):=by
 have key:∀(l b:List Int),l.all x8=true→HH b→b.length=64→A4 (l.foldl lS b) i=(A4 b i||decide ((i:Int)∈l))∧HH (l.foldl lS b):=by
  intro l;induction l with
  | nil=>intro b _ a _;simp[a]
  | cons x l m =>
   intro b c a d;rw[AAU,An]at c;have e:=c.1;unfold x8 at e;rw[To,AAi,NO,NO]at e;obtain⟨f,g⟩:=m (lS b x) c.2 (yC a x) (by simp[lS,d]);rw[TO];refine⟨?_,g⟩;rw[f,yB a d (by omega) (by omega),Bool.or_assoc]
   congr 1
   rw[←Bool.decide_or,decide_eq_decide,Do,eq_comm]
 have j:HH (List.replicate 64 (0:Int)):=by
  intro y k;rw[(List.mem_replicate.1 k).2];exact⟨by decide,by decide⟩
 have h1:=key l (List.replicate 64 0) h j (by simp);refine⟨?_,h1.2⟩;unfold nS;rw[h1.1];have:A4 (List.replicate 64 (0:Int)) i=false:=by
  unfold A4;have:(List.replicate 64 (0:Int)).getD (i / 64) 0=0:=by
   rw[AS,AAT];split<;>rfl
  rw[this];simp
 rw[this,ACp]
theorem q9 {low all:List ByteArray} {n i:Nat}:((i:Int)∈MU low all n)↔i<n∧AR low (all.getD i ByteArray.empty)=true:=by
 unfold MU;rw[Of];constructor
 ·rintro⟨j,a,e⟩;have:j=i:=by omega
  subst this;rw[AAg,oN]at a;exact a
 ·rintro⟨h1,b⟩;exact⟨i,by rw[AAg,oN];exact⟨h1,b⟩,rfl⟩
theorem yE {low all:List ByteArray} {n:Nat} (hn:n≤4096):(MU low all n).all x8=true:=by
 rw[DO];intro x a;unfold MU at a;obtain⟨j,b,rfl⟩:=Of.1 a;rw[AAg,oN]at b;unfold x8;rw[To,AAi,NO,NO];exact⟨by omega,by omega⟩
theorem Bh {d:List AF} {all:List ByteArray} (c:all.length≤4096) (s:ByteArray) (i:Nat):(A4 (ED d all s) i=true↔i<all.length∧AR (CN d s) (all.getD i ByteArray.empty)=true)∧HH (ED d all s)∧(ED d all s).length≤64:=by
 have h1:=yE (low:=CN d s) (all:=all) c;have b:=yD h1 i;have a:ED d all s=BA (nS (MU (CN d s) all all.length)):=by
  unfold ED uA;rw[BY h1]
 refine⟨?_,?_,?_⟩
 ·rw[a,MW,b.1,GO,q9]
 ·rw[a];exact MX b.2
 ·rw[a];unfold BA;have:=NV (MU (CN d s) all all.length);rw[OR];omega
theorem Hz (d:List AF) {s t:ByteArray} (h:AY s t=true):Af d s=Af d t:=by
 have key:∀(l:List AF) (k:Nat),CT s k l=CT t k l:=by
  intro l;induction l with
  | nil=>intro k;rfl
  | cons x l b =>
   intro k;simp only[CT];have:AY x.1 s=AY x.1 t:=by
    cases h1:AY x.1 s with
    | true=>exact(A7 h1 h).symm
    | false =>
     cases a:AY x.1 t with
     | false=>rfl
     | true=>rw[A7 a (DX h)]at h1;cases h1
   rw[this,b]
 exact key d 0
theorem A6 {α:Type} {l:List α} {d:α} {k:Nat} (h:k<l.length):l.getD k d∈l:=by
 rw[AS,AT h];exact AAf h
theorem DK {α:Type} {l:List α} (d:α) {x:α} (h:x∈l):∃k,k<l.length∧l.getD k d=x:=by
 obtain⟨k,hk,e⟩:=AAa.1 h;exact⟨k,hk,by rw[AS,AT hk];exact e⟩
theorem H0 {d:List AF}:∀ {r:List AF} {k:Nat},MS d k r=0→∀j,j<r.length→¬Af d (r.getD j d0).1<((k+j:Nat):Int)∧EB (r.getD j d0).1 false=true
 | [],_,_,j,a=>by simp at a
 | x :: r,k,h,j,a=>by
  simp only[MS]at h;split at h
  ·cases h
  ·rename_i h1;split at h
   ·cases h
   ·rename_i b;cases j with
    | zero=>exact⟨b,by simpa using h1⟩
    | succ j =>
     have:=H0 h j (by simpa using a);have e:k+(j+1)=k+1+j:=by omega
     rw[e];exact this
theorem Nb (s:ByteArray):∀(l:List AF) (k j:Nat),j<l.length→AY (l.getD j d0).1 s=true→CT s k l≤((k+j:Nat):Int)
 | [],_,j,h,_=>by simp at h
 | x :: l,k,j,h,e=>by
  simp only[CT];split
  ·omega
  ·rename_i h1;cases j with
   | zero=>exact absurd e h1
   | succ j =>
    have:=Nb s l (k+1) j (by simpa using h) e;omega
theorem Iy {d:List AF} (h:CL d=0) {j:Nat} (b:j<d.length):Af d (d.getD j d0).1=(j:Int):=by
 have h1:=(H0 h j b).1;have a:=Nb (d.getD j d0).1 d 0 j b (CU _);rw[AAC]at h1 a;have a:Af d (d.getD j d0).1≤(j:Int):=a;omega
theorem Nc {d:List AF} (h:CL d=0) {x y:AF} (c:x∈d) (f:y∈d) (e:AY x.1 y.1=true):x=y:=by
 obtain⟨i,hi,rfl⟩:=DK d0 c;obtain⟨j,b,rfl⟩:=DK d0 f;have h1:=Iy h hi;have a:=Iy h b;rw[Hz d e,a]at h1;have:i=j:=by omega
 rw[this]
theorem Z9 (d:List AF) (out:List ByteArray) (h:(HB d out).1=true):∃x∈d,x.1=(HB d out).2∧AR out x.1=false∧HA x out=true:=by
 have key:∀(l:List AF) (s:Bool×ByteArray),(∀x∈l,x∈d)→(s.1=true→∃x∈d,x.1=s.2∧AR out x.1=false∧HA x out=true)→(l.foldl (Hx out) s).1=true →
   ∃x∈d,x.1=(l.foldl (Hx out) s).2∧AR out x.1=false∧HA x out=true:=by
  intro l;induction l with
  | nil=>intro s _ hs h;exact hs h
  | cons y l g =>
   intro s c hs h;rw[TO]at h ⊢;refine g _ (fun x f=>c x (by simp[f])) (fun hp=>?_) h;unfold Hx at hp ⊢;split
   ·rename_i a;rw[BY a]at hp;exact hs hp
   ·rename_i a;simp only;have a:AR out y.1=false∧HA y out=true:=by simpa using a
    split
    ·exact⟨y,c y (by simp),rfl,a⟩
    ·rename_i b;have:s.1=true:=by
      cases e:s.1 with
      | true=>rfl
      | false=>rw[e]at b;simp at b
     exact hs this
 exact key d _ (fun _ h=>h) (fun h=>by cases h) h
def PL (d:List AF) (o:List ByteArray):Prop:=∀j,j<o.length→∃x∈d,x.1=o.getD j ByteArray.empty∧AR (o.take j) x.1=false∧HA x (o.take j)=true
theorem PL.snoc {d:List AF} {o:List ByteArray} (h:PL d o) {x:AF} (k:x∈d) (h1:AR o x.1=false) (f:HA x o=true):PL d (o++[x.1]):=by
 intro j g;by_cases a:j<o.length
 ·obtain⟨y,l,b,c,e⟩:=h j a;refine⟨y,l,?_,?_,?_⟩
  ·rw[b];simp[AS,AAh,a]
  ·rw[AB3 (by omega)];exact c
  ·rw[AB3 (by omega)];exact e
 ·have i:j=o.length:=by simp at g;omega
  subst i;refine⟨x,k,?_,?_,?_⟩
  ·simp[AS]
  ·rw[AB3 (by omega),gO];exact h1
  ·rw[AB3 (by omega),gO];exact f
theorem SI {d:List AF}:∀ {n:Nat} {o:List ByteArray},PL d o→PL d (Hy d n o)
 | 0,_,h=>h
 | n+1,o,h=>by
  unfold Hy;split
  ·rename_i hp;obtain⟨x,b,e,h1,a⟩:=Z9 d o hp;rw[←e];exact SI (h.snoc b h1 a)
  ·exact h
theorem Uh (d:List AF):PL d (BS d):=SI fun j a=>by simp at a
theorem PL.ok {d:List AF} {o:List ByteArray} (h:PL d o):WG d o:=by
 refine⟨fun s hs=>?_,?_⟩
 ·obtain⟨j,a,rfl⟩:=DK ByteArray.empty hs;obtain⟨x,c,e,-⟩:=h j a;rw[←e];exact Cz c
 ·rw[nO];intro i j hi a f;obtain⟨x,c,e,h1,-⟩:=h j a;have b:=NS h1 o[i] (by rw[ABk];exact⟨i,by omega,rfl⟩);rw[e]at b;rw[AS,AT a]at b;exact b
theorem aA {n:Nat} {l:List Nat} (h:l.Nodup) (c:∀j∈l,j<n) (hn:n≤l.length) {k:Nat} (hk:k<n):k∈l:=by
 refine By fun b=>?_;have:=Dm n (k :: l) (AAc.2 ⟨b,h⟩) (fun j a=>by
  rcases Do.1 a with rfl|a
  ·exact hk
  ·exact c j a)
 simp at this;omega
theorem aB {d:List AF} (l:d.length≤(BS d).length) {x:AF} (m:x∈d):∃s∈BS d,AY s x.1=true:=by
 have a:=(Uh d).ok;have h1:=Jn d a;have h0:=Cz m;have h:=Cs d x.1;have f:=aA (n:=d.length) h1 (fun j i=>by
  obtain⟨s,hs,rfl⟩:=Of.1 i;have h1:=a.decl s hs;rcases Cs d s with g|⟨_,g,_⟩<;>omega) (by simpa using l) (k:=(Af d x.1).toNat) (by omega)
 obtain⟨s,hs,e⟩:=Of.1 f;refine⟨s,hs,?_⟩;rcases Cs d s with g|⟨_,_,b⟩
 ·have:=a.decl s hs;omega
 ·rcases h with g|⟨_,_,c⟩
  ·omega
  ·rw[e]at b;exact A7 (DX b) c
def FP (d:List AF) (s:ByteArray):Nat:=(BS d).findIdx fun x=>AY x s
theorem HI (d:List AF) {s t:ByteArray} (h:AY s t=true):FP d s=FP d t:=by
 unfold FP
 congr 1
 funext x;cases h1:AY x s with
 | true=>exact(A7 h1 h).symm
 | false =>
  cases a:AY x t with
  | false=>rfl
  | true=>rw[A7 a (DX h)]at h1;cases h1
theorem Jo {d:List AF} (hn:CL d=0) (o:d.length≤(BS d).length) {x:AF} (g:x∈d) {s:ByteArray} (hs:AR x.2.1 s=true):FP d s<FP d x.1:=by
 obtain⟨t,q,e⟩:=aB o g;have c:FP d x.1<(BS d).length:=List.findIdx_lt_length_of_exists ⟨t,q,e⟩;have heq:AY ((BS d)[FP d x.1]) x.1=true:=List.findIdx_getElem (w:=c);obtain⟨y,z,a,-,j⟩:=Uh d (FP d x.1) c;rw[AS,AT c]at a;have a:y.1=(BS d)[FP d x.1]:=a;rw[←a]at heq;have A:=Nc hn z g heq;subst A;obtain⟨u,r,h⟩:=OF.1 hs;have k:AR ((BS d).take (FP d y.1)) u=true:=DO.1 j u r;obtain⟨v,f,ev⟩:=OF.1 k;rw[ABk]at f;obtain⟨i,hi,rfl⟩:=f;have n:i<FP d y.1:=by omega
 refine AC9 ?_ n;refine By fun m=>?_;have b:=List.not_of_lt_findIdx (p:=fun x=>AY x s) (xs:=BS d) (i:=i) (by unfold FP at m;omega);have l:AY ((BS d)[i]) s=true:=A7 ev h;try simp only at b
 rw[l]at b;exact absurd b (by simp)
def Te (d:List AF) (s x:ByteArray):Prop:=AY s x=true∨FP d s<FP d x
theorem lW {d:List AF} (hn:CL d=0) (f:d.length≤(BS d).length) {s c:ByteArray} (b:Te d s c) {o:List ByteArray} (e:∀x∈o,Te d s x) {x:AF} (g:x∈d):∀y∈Ea c o x,Te d s y:=by
 intro y a;unfold Ea at a;split at a
 ·rename_i h;rw[An]at h;rcases ON.1 a with a|a
  ·exact e y a
  ·have:y=x.1:=by simpa using a
   subst this;have h1:=Jo hn f g h.1;right;rcases b with b|b
   ·rw[HI d b];exact h1
   ·omega
 ·exact e y a
theorem SJ {d:List AF} (hn:CL d=0) (e:d.length≤(BS d).length) {s c:ByteArray} (b:Te d s c):∀ {l:List AF} {o:List ByteArray},(∀x∈l,x∈d)→(∀x∈o,Te d s x)→∀y∈l.foldl (Ea c) o,Te d s y
 | [],_,_,a=>a
 | x :: l,o,f,a=>by
  rw[TO];exact SJ hn e b (fun y g=>f y (by simp[g])) (lW hn e b a (f x (by simp)))
theorem QF {d:List AF} (hn:CL d=0) (b:d.length≤(BS d).length) {s:ByteArray}:∀ {n i:Nat} {o:List ByteArray},(∀x∈o,Te d s x)→∀y∈CM d n i o,Te d s y
 | 0,_,_,a=>a
 | n+1,i,o,a=>by
  unfold CM;split
  ·rename_i hi;exact QF hn b (SJ hn b (a _ (A6 hi)) (fun _ h=>h) a)
  ·exact a
theorem rA {c:ByteArray} {o:List ByteArray} {x:AF} {y:ByteArray} (h:y∈o):y∈Ea c o x:=by
 unfold Ea;split
 ·exact ON.2 (.inl h)
 ·exact h
theorem Ld {c:ByteArray} {y:ByteArray}:∀ {l:List AF} {o:List ByteArray},y∈o→y∈l.foldl (Ea c) o
 | [],_,h=>h
 | x :: l,o,h=>by rw[TO];exact Ld (rA h)
theorem Jp {d:List AF} {y:ByteArray}:∀ {n i:Nat} {o:List ByteArray},y∈o→y∈CM d n i o
 | 0,_,_,h=>h
 | n+1,i,o,h=>by
  unfold CM;split
  ·exact Jp (Ld h)
  ·exact h
theorem F5 {l:List ByteArray} {s x:ByteArray} (h:x∈Ds l s):x∈l∨x=s:=by
  unfold Ds at h;split at h
  · exact .inl h
  · simp only[ON,Do,AAs]at h
    rcases h with h|h
    · first
        | exact .inl (AA8 h)
        | (rcases h with h | h
           · exact .inl (AA8 h)
           · exact .inr (by simpa using h))
    · first
        | exact .inl (AAz h)
        | (rcases h with h | h
           · exact .inr h
           · exact .inl (AAz h))
theorem Le {l:List ByteArray} {s x:ByteArray} (h:x∈l):x∈Ds l s:=by
 unfold Ds;split
 ·exact h
 ·have a:x∈l.take (nR l s)∨x∈l.drop (nR l s):=ON.1 (by rw[ABf];exact h);simp only[ON,Do,AAs];rcases a with a|a<;>simp[a]
theorem Nf {l:List ByteArray} {s:ByteArray}:AR (Ds l s) s=true:=by
  unfold Ds;split
  · rename_i h
    first
      | exact F3 l ByteArray.empty _ h.1 h.2
      | (have h : nR l s < l.length ∧ AY (l.getD (nR l s) ByteArray.empty) s = true := by simpa using h
         exact F3 l ByteArray.empty _ h.1 h.2)
  · unfold AR
    rw[OF];exact⟨s,by simp,CU s⟩
theorem Ey {l:List ByteArray} {s:ByteArray} (h:s∈l):AR l s=true:=OF.2 ⟨s,h,CU s⟩
theorem Iz {l m:List ByteArray} {s:ByteArray} (hs:∀x∈l,x∈m) (h:AR l s=true):AR m s=true:=by
 obtain⟨x,a,e⟩:=OF.1 h;exact OF.2 ⟨x,hs x a,e⟩
theorem SK:∀ {l o:List ByteArray} {x:ByteArray},x∈l.foldl Ds o→x∈o∨x∈l
 | [],_,_,h=>.inl h
 | y :: l,o,x,h=>by
  rw[TO]at h;rcases SK h with h|h
  ·rcases F5 h with h|h
   ·exact .inl h
   ·exact .inr (by simp[h])
  ·exact .inr (by simp[h])
theorem Ui:∀ {l o:List ByteArray} {x:ByteArray},x∈o→x∈l.foldl Ds o
 | [],_,_,h=>h
 | y :: l,o,x,h=>by rw[TO];exact Ui (Le h)
theorem Ng:∀ {l o:List ByteArray} {x:ByteArray},x∈l→AR (l.foldl Ds o) x=true
 | [],_,_,h=>by cases h
 | y :: l,o,x,h=>by
  rw[TO];rcases Do.1 h with rfl|h
  ·exact Iz (fun z a=>Ui a) (Nf (l:=o) (s:=x))
  ·exact Ng h
theorem MY {d:List AF} {s:ByteArray} (h:0≤Af d s):AR (CN d s) s=true:=by
 unfold CN;rw[At (by omega)];exact Ng (Jp (by simp))
theorem SL {d:List AF} (hn:CL d=0) (c:d.length≤(BS d).length) {s x:ByteArray} (h:AR (CN d s) x=true):Te d s x:=by
 obtain⟨y,a,e⟩:=OF.1 h;have b:Te d s y:=by
  unfold CN at a;split at a
  ·cases a
  ·rcases SK a with a|a
   ·cases a
   ·refine QF hn c (fun z f=>?_) y a;have:z=s:=by simpa using f
    rw[this];exact .inl (CU s)
 rcases b with b|b
 ·exact .inl (A7 b e)
 ·rw[HI d e]at b;exact .inr b
theorem CV {d:List AF} {s:ByteArray} (h:s∈AM d):∃x∈d,x.1=s:=by
 have key:∀(l:List AF) (o:List ByteArray),s∈l.foldl (fun o x=>Ds o x.1) o→s∈o∨∃x∈l,x.1=s:=by
  intro l;induction l with
  | nil=>intro o h;exact .inl h
  | cons x l b =>
   intro o h;rw[TO]at h;rcases b _ h with h|⟨y,a,e⟩
   ·rcases F5 h with h|h
    ·exact .inl h
    ·exact .inr ⟨x,by simp,h.symm⟩
   ·exact .inr ⟨y,by simp[a],e⟩
 rcases key d [] h with h|h
 ·cases h
 ·exact h
theorem MZ {d:List AF} {x:AF} (h:x∈d):AR (AM d) x.1=true:=by
 have b:∀(l:List AF) (o:List ByteArray),∀y∈o,y∈l.foldl (fun o x=>Ds o x.1) o:=by
  intro l;induction l with
  | nil=>intro o y h;exact h
  | cons x l a=>intro o y h;rw[TO];exact a _ y (Le h)
 have key:∀(l:List AF) (o:List ByteArray),x∈l→AR (l.foldl (fun o x=>Ds o x.1) o) x.1=true:=by
  intro l;induction l with
  | nil=>intro o h;cases h
  | cons y l a =>
   intro o h;rw[TO];rcases Do.1 h with rfl|h
   ·exact Iz (b l _) (Nf (l:=o) (s:=x.1))
   ·exact a _ h
 exact key d [] h
theorem X8 {d:List AF} (hn:CL d=0) (g:d.length≤(BS d).length) (r:d.length≤256) {i j:Nat} (hi:i<(AM d).length) (f:j<(AM d).length)
  (h:Cr (ED d (AM d) ((AM d).getD i ByteArray.empty)) (ED d (AM d) ((AM d).getD j ByteArray.empty))=true):AY ((AM d).getD i ByteArray.empty) ((AM d).getD j ByteArray.empty)=true:=by
 have o:=DW d d.length;rw[gO]at o;have a:(AM d).length≤4096:=by omega
 generalize hs:(AM d).getD i ByteArray.empty=s at *;generalize b:(AM d).getD j ByteArray.empty=t at *;have p:0≤Af d s:=by
  obtain⟨x,c,e⟩:=CV (s:=s) (by rw[←hs];exact A6 hi);rw[←e];exact Cz c
 have q:0≤Af d t:=by
  obtain⟨x,c,e⟩:=CV (s:=t) (by rw[←b];exact A6 f);rw[←e];exact Cz c
 obtain⟨c1,k,-⟩:=Bh (d:=d) a s i;obtain⟨c2,l,-⟩:=Bh (d:=d) a t i;obtain⟨m,-,-⟩:=Bh (d:=d) a s j;obtain⟨n,-,-⟩:=Bh (d:=d) a t j;unfold Cr at h;rw[An]at h;have b1:=SL hn g (c2.1 (Kz k l h.1 (c1.2 ⟨hi,by rw[hs];exact MY p⟩))).2;have b2:=SL hn g (m.1 (Kz l k h.2 (n.2 ⟨f,by rw[b];exact MY q⟩))).2;rw[hs]at b1;rw[b]at b2;rcases b1 with b1|b1
 ·exact DX b1
 ·rcases b2 with b2|b2
  ·exact b2
  ·omega
section
attribute [local go_sem] V8 qJ Kw cs0 cs1
def iR (d:List AF) (all:List ByteArray) (codes:List (List Int)) (b:List Int):Nat→Nat→List ByteArray→ByteArray ⊕ List ByteArray
 | 0,_,l=>.inr l
 | n+1,i,l=>if Cr (codes.getD i []) b=true then .inl (all.getD i ByteArray.empty) else iR d all codes b n (i+1) (if Ox b (i:Int)=true then l++[all.getD i ByteArray.empty] else l)
def Uj (l:List ByteArray) (s:ByteArray) (i:Nat):ByteArray:=(if 0<(i:Int) then s++ByteArray.mk #[38] else s)++l.getD i ByteArray.empty
def X9 (l:List ByteArray):ByteArray:=(List.range l.length).foldl (Uj l) ByteArray.empty
def F6 (d:List AF) (all:List ByteArray) (codes:List (List Int)) (b:List Int):ByteArray :=
 match iR d all codes b all.length 0 [] with
 | .inl s=>s
 | .inr l=>X9 (Aq d l)
theorem L4 {d:List AF} {x:ByteArray}:∀ {l o:List ByteArray},x∈l.foldl (Eb d) o→x∈o∨x∈l
 | [],_,h=>.inl h
 | y :: l,o,h=>by
  rw[TO]at h;rcases L4 h with h|h
  ·unfold Eb at h;split at h
   ·rcases F5 h with h|h
    ·exact .inl h
    ·exact .inr (by simp[h])
   ·exact .inl h
  ·exact .inr (by simp[h])
theorem GW {d:List AF} {l:List ByteArray} {x:ByteArray} (h:x∈Aq d l):x∈l:=by
 unfold Aq NU at h;obtain⟨i,hi,rfl⟩:=Of.1 h;rw[AAg,oN]at hi;rcases L4 (A6 (d:=ByteArray.empty) hi.1) with h|h
 ·cases h
 ·exact h
theorem WM (d:List AF) (l:List ByteArray):(Aq d l).length≤l.length:=f4 (Xz _ _ _) (IM d l)
theorem aC {l:List ByteArray} (h:∀s∈l,s.size≤32) (k:Nat):(l.getD k ByteArray.empty).size≤32:=by
 rw[AS];cases a:l[k]? with
 | none=>simp
 | some x=>exact h x (AA9 a)
def Nh (l:List ByteArray) (n:Nat):ByteArray:=(List.range n).foldl (Uj l) ByteArray.empty
theorem Ma (l:List ByteArray) (n:Nat):Nh l (n+1)=Uj l (Nh l n) n:=by
 unfold Nh;rw[AAb,ABq];rfl
theorem SM {l:List ByteArray} (h:∀s∈l,s.size≤32):∀n,(Nh l n).size≤33*n
 | 0=>by simp[Nh]
 | n+1=>by
  have h1:=SM h n;have a:=aC h n;rw[Ma];unfold Uj;split
  ·rw[ABi,ABi];have:(ByteArray.mk #[38]).size=1:=rfl;omega
  ·rw[ABi];omega
def WN:Ad:={ ins:=[Ef,Bt,Qc,Dh],pre:=fun(d,all,codes,b,_)=>NR d∧List.length d≤256∧List.length all≤256∧List.length codes=List.length all∧(∀s∈(all:List ByteArray),s.size≤32)∧(∀x∈(codes:List (List Int)),x.length≤64)∧List.length b≤64,out:=fun(d,all,codes,b,_)=>[.p T9 (F6 d all codes b)] }
theorem lX:Aj Tryz.prog 101 WN:=by
 refine fK [0,1,2,3,8,9,10,11,12,16,24,31,45,49] Tryz.func101 Tryz.ntmps101 (AD lK (AD qK (AD SE AG))) ?_;rintro w0 O0 ⟨d,all,codes,b,u⟩ e-⟨hs,z,t,q,C,y,w⟩;have t:all.length≤256:=t;have q:codes.length=all.length:=q;simp only[WN,AL];repeat'(first|exact trivial|refine eS rfl ?_|refine AB ?_|refine rX e ?_ ?_|refine rC ?_ ?_<;>intro a<;>try(cases a;done))
 refine AH (ι:={x:Nat×List ByteArray//x.1≤all.length∧x.2.length≤x.1∧(∀s∈x.2,s.size≤32)∧iR d all codes b (all.length-x.1) x.1 x.2=iR d all codes b all.length 0 []}) (fun x=>⟨[(0,.p Ef d),(1,.p Bt all),(2,.p Qc codes),(3,.p Dh b),(9,.sr 38 T9 0 x.1.2.length),(10,.p (.int .i64) (x.1.1:Int))],[(38,.arr 9 T9 x.1.2)]⟩) (fun x=>all.length-x.1.1) ⟨(0,[]),by simp,by simp,by simp,rfl⟩ (AC [(38,.nil)] rfl rfl ?_ ?_) (fun x=>?_)
 ·first|exact eN|refine eM ?_
 ·first|exact eN|refine eM ?_
 ·obtain⟨⟨i,l⟩,hi,B,o,f⟩:=x;simp only at hi B o f;have r:i<all.length→iR d all codes b (all.length-i) i l=if Cr (codes.getD i []) b=true then .inl (all.getD i ByteArray.empty) else iR d all codes b (all.length-(i+1)) (i+1) (if Ox b (i:Int)=true then l++[all.getD i ByteArray.empty] else l):=by
   intro h;rw[show all.length-i=(all.length-(i+1))+1 by omega];rfl
  simp only;repeat'(first|exact trivial|refine eS rfl ?_|refine AB ?_|refine rX e ?_ ?_|refine rC ?_ ?_<;>intro a<;>try(cases a;done))
  ·exact⟨by rw[q];exact a,f4 (Ky y i) (by decide),f4 w (by decide)⟩
  ·assumption
  ·have c:i<all.length:=by exact eV
   have j:F6 d all codes b=all.getD i ByteArray.empty:=by
    unfold F6;rw[←f,r c,BY a]
   exact fI e [.tmp 8] (by rw[j];exact eR)
  ·have c:i<all.length:=by exact eV
   exact⟨OM.2 c,by simp only[AO];omega⟩
  ·exact eV
  ·have c:i<all.length:=by exact eV
   have hn:=r c;rw[At (by rw[‹Cr _ _=false›];simp),BY a]at hn;refine⟨⟨(i+1,l++[all.getD i ByteArray.empty]),by simp only;omega,by simp only[On,oS];omega,?_,hn.symm.trans f⟩,by simp only;omega,AC [(38,.nm 38)] rfl rfl ?_ ?_⟩
   ·intro s hs;rcases ON.1 hs with hs|hs
    ·exact o s hs
    ·have:s=all.getD i ByteArray.empty:=by simpa using hs
     rw[this];exact aC C i
   ·first|exact eN|refine eM ?_
   ·first|exact eN|refine eM ?_
  ·exact eV
  ·have c:i<all.length:=by exact eV
   have hn:=r c;rw[At (by rw[‹Cr _ _=false›];simp),At (by rw[a];simp)]at hn;refine⟨⟨(i+1,l),by simp only;omega,by simp only;omega,o,hn.symm.trans f⟩,by simp only;omega,AC [(38,.nm 38)] rfl rfl ?_ ?_⟩
   ·first|exact eN|refine eM ?_
   ·first|exact eN|refine eM ?_
  ·have j:F6 d all codes b=X9 (Aq d l):=by
    unfold F6;rw[←f];have:all.length-i=0:=by exact eV
    rw[this];rfl
   refine GJ [38] ?_;repeat'(first|exact trivial|refine eS rfl ?_|refine AB ?_|refine rX e ?_ ?_|refine rC ?_ ?_<;>intro a<;>try(cases a;done))
   ·exact⟨hs,z,by omega⟩
   ·have v:∀s∈Aq d l,s.size≤32:=fun s h=>o s (GW h);have E:=WM d l;have A:X9 (Aq d l)=Nh (Aq d l) (Aq d l).length:=rfl;rw[A]at j;generalize Aq d l=m at *;refine AH (ι:={k:Nat//k≤m.length}) (fun k=>⟨[(9,.p Bt m),(11,.p T9 (Nh m k.1)),(12,.p (.int .i64) (k.1:Int))],[]⟩) (fun k=>m.length-k.1) ⟨0,IS _⟩ (AC [] rfl rfl ?_ ?_) (fun k=>?_)
    ·first|exact eN|refine eM ?_
    ·first|exact eN|refine eM ?_
     rfl
    ·obtain⟨k,hk⟩:=k;have hk:k≤m.length:=hk;have D:=SM v k;have n:=Ma m k;have F:=aC v k;unfold Uj at n;simp only;repeat'(first|exact trivial|refine eS rfl ?_|refine AB ?_|refine rX e ?_ ?_|refine rC ?_ ?_<;>intro a<;>try(cases a;done))
     ·have h1:(ByteArray.mk #[38]).size=1:=rfl;rw[h1];simp only[AO];exact eV
     ·refine⟨by assumption,?_⟩;have h1:(ByteArray.mk #[38]).size=1:=rfl;rw[ABi,h1];simp only[AO];exact eV
     ·exact eV
     ·have g:k<m.length:=by exact eV
      rw[BY a]at n;refine⟨⟨k+1,g⟩,by simp only;omega,AC [] rfl rfl ?_ ?_⟩
      ·first|exact eN|refine eM ?_
      ·simp only[n];first|exact eN|refine eM ?_
     ·refine⟨by assumption,?_⟩;simp only[AO];exact eV
     ·exact eV
     ·have g:k<m.length:=by exact eV
      rw[At (AAR.2 a)]at n;refine⟨⟨k+1,g⟩,by simp only;omega,AC [] rfl rfl ?_ ?_⟩
      ·first|exact eN|refine eM ?_
      ·simp only[n];first|exact eN|refine eM ?_
     ·have g:k=m.length:=by exact eV
      rw[←g]at j;exact fI e [.tmp 8] (by rw[j];exact eR)
end
section
attribute [local go_sem] Q0 NQ qW WK WN WJ
def Ez (x:AP) (out:List AP):Nat→Nat
 | 0=>0
 | n+1=>if FF x (out.getD n c0)=true then Ez x out n else n+1
def WO (out:List AP) (x:AP):List AP:=out.take (Ez x out out.length)++[x]++out.drop (Ez x out out.length)
def AQ (d:List AF):List (List Int):=(AM d).map fun s=>ED d (AM d) s
def Fe (d:List AF) (all:List ByteArray) (codes:List (List Int)) (out:List AP) (b:List Int):List AP:=WO out (F6 d all codes b,b)
def O7 (d:List AF):List AP→List Int→List AP:=Fe d (AM d) (AQ d)
theorem Mb (d:List AF) (all:List ByteArray) (codes:List (List Int)):∀(l:List (List Int)) (o:List AP),(l.foldl (Fe d all codes) o).length=o.length+l.length
 | [],o=>by simp
 | b :: l,o=>by
  rw[TO,Mb d all codes l];unfold Fe WO;simp only[On,OR,AAP,Is,AAS];omega
theorem SN {d:List AF} {all:List ByteArray} {codes:List (List Int)}:∀ {l:List (List Int)} {o:List AP},(∀c∈l,c.length≤64)→(∀y∈o,y.2.length≤64)→∀y∈l.foldl (Fe d all codes) o,y.2.length≤64
 | [],_,_,e=>e
 | b :: l,o,f,e=>by
  rw[TO];refine SN (fun c g=>f c (by simp[g])) (fun y a=>?_);unfold Fe WO at a;simp only[ON,AAs]at a;rcases a with (a|a)|a
  ·exact e y (AA8 a)
  ·rw[a];exact f b (by simp)
  ·exact e y (AAz a)
theorem YA (x:AP) (out:List AP):∀n,Ez x out n≤n
 | 0=>If _
 | n+1=>by
  unfold Ez;split
  ·exact Nat.le_succ_of_le (YA x out n)
  ·exact If _
def AJ (d:List AF):List AP:=(Ai (AQ d)).foldl (O7 d) []
def Bp (d:List AF):List AP×Int :=
 if Ax d≠0 then ([],Ax d) else if 256<(Ai (AQ d)).length then ([],7) else (AJ d,0)
theorem aD {s:ByteArray} {b:Bool} (h:EB s b=true):s.size≤32:=by
 unfold EB at h;rw[An]at h;have h1:=h.1;unfold Ov at h1;simp only[To,AAi,NO]at h1;have:=h1.1.1.2;omega
theorem YB {d:List AF} (hn:CL d=0):∀s∈AM d,s.size≤32:=by
 intro s hs;obtain⟨x,b,rfl⟩:=CV hs;obtain⟨j,a,rfl⟩:=DK d0 b;exact aD (H0 hn j a).2
def Jq (d:List AF) (n:Nat):List (List Int):=((AM d).take n).map fun s=>ED d (AM d) s
theorem aE {d:List AF} {n:Nat} (h:n≤(AM d).length):(Jq d n).length=n:=by simp[Jq,h]
theorem YC {d:List AF} {n:Nat} (h:n<(AM d).length):Jq d (n+1)=Jq d n++[ED d (AM d) ((AM d).getD n ByteArray.empty)]:=by
 unfold Jq;rw[Ae _ ByteArray.empty h,AAM];rfl
theorem aF (d:List AF):Jq d (AM d).length=AQ d:=by simp[Jq,AQ]
theorem aG (d:List AF):(AQ d).length=(AM d).length:=by simp[AQ]
theorem Mc {d:List AF} (h:d.length≤256):∀c∈AQ d,c.length≤64:=by
 intro c a;unfold AQ at a;obtain⟨s,-,rfl⟩:=Of.1 a;have b:=DW d d.length;rw[gO]at b;exact(Bh (d:=d) (all:=AM d) (by omega) s 0).2.2
theorem YD {i:Nat}:∀ {n k:Nat} {l:List (List Int)},(∀c∈l,c.length≤64)→∀c∈Fd i n k l,c.length≤64
 | 0,_,_,h=>h
 | n+1,k,l,h=>by
  unfold Fd;split
  ·exact YD (X4 h i k)
  ·exact h
theorem Ni:∀ {n i:Nat} {l:List (List Int)},(∀c∈l,c.length≤64)→∀c∈HF n i l,c.length≤64
 | 0,_,_,h=>h
 | n+1,i,l,h=>by
  unfold HF;split
  ·exact Ni (YD h)
  ·exact h
theorem YE {out:List AP} {x y:AP}:y∈WO out x↔y=x∨y∈out:=by
 unfold WO;rw[ON,ON,AAs];have h:=ON (a:=y) (s:=out.take (Ez x out out.length)) (t:=out.drop (Ez x out out.length));rw[ABf]at h;rw[h];constructor
 ·rintro ((h|h)|h)
  ·exact .inr (.inl h)
  ·exact .inl h
  ·exact .inr (.inr h)
 ·rintro (h|h|h)
  ·exact .inl (.inr h)
  ·exact .inl (.inl h)
  ·exact .inr h
def O8:Ad:={ ins:=[Ef],pre:=fun _=>True,out:=fun(d,_)=>[.p Iu (Bp d).1,.p TU (Bp d).2] }
theorem Nj:Aj Tryz.prog 64 O8:=by
 refine fK [0,2,3,4,5,6,7,8,9,10,11,12,13,17,24,41,45,73] Tryz.func64 Tryz.ntmps64 (AD lQ (AD UZ (AD x9 (AD lV (AD lX (AD lT AG)))))) ?_;rintro w0 O0 ⟨d,u⟩ g - -;simp only[O8,AL];repeat'(first|exact trivial|refine eS rfl ?_|refine AB ?_|refine rX g ?_ ?_|refine rC ?_ ?_<;>intro a<;>try(cases a;done))
 ·have h1:Bp d=([],Ax d):=by unfold Bp;rw[BY a]
  exact fI g [.tmp 2,.tmp 3] (by rw[h1];exact eR)
 ·have i:Ax d=0:=by simpa using a
  obtain⟨-,E,-⟩:=Ao i;exact f4 E (by decide)
 ·have i:Ax d=0:=by simpa using a
  obtain⟨M,s,-,hn,-⟩:=Ao i;have F:=DW d d.length;rw[gO]at F;have N:=YB hn;refine AH (ι:={n:Nat//n≤(AM d).length}) (fun n=>⟨[(0,.p Ef d),(5,.p Bt (AM d)),(6,.sr 36 Dh 0 (Jq d n.1).length),(7,.p (.int .i64) (n.1:Int))],[(36,.arr 81 Dh (Jq d n.1))]⟩) (fun n=>(AM d).length-n.1) ⟨0,IS _⟩ (AC [(36,.nil)] rfl rfl ?_ ?_) (fun n=>?_)
  ·first|exact eN|refine eM ?_
   rfl
  ·first|exact eN|refine eM ?_
   rfl
  ·obtain⟨n,I⟩:=n;have Q:=aE I;have hs:=fun h=>YC (d:=d) (n:=n) h;simp only;repeat'(first|exact trivial|refine eS rfl ?_|refine AB ?_|refine rX g ?_ ?_|refine rC ?_ ?_<;>intro a<;>try(cases a;done))
   ·refine⟨a,⟨s,by dsimp only[Ty.den]at *;omega⟩,?_⟩;simp only[AO];dsimp only[Ty.den]at *;omega
   ·exact eV
   ·have w:n<(AM d).length:=by exact eV
    have e:=hs w;refine⟨⟨n+1,by omega⟩,by simp only;omega,AC [(36,.nm 36)] rfl rfl ?_ ?_⟩
    ·simp only[e];first|exact eN|refine eM ?_
    ·simp only[e];first|exact eN|refine eM ?_
   ·have w:n=(AM d).length:=by exact eV
    subst w;rw[aF];have H:=aG d;have x:=Mc s;have t:∀c∈Ai (AQ d),c.length≤64:=Ni x;refine GJ [36] ?_;repeat'(first|exact trivial|refine eS rfl ?_|refine AB ?_|refine rX g ?_ ?_|refine rC ?_ ?_<;>intro a<;>try(cases a;done))
    ·exact⟨by omega,x⟩
    ·have h1:Bp d=([],7):=by
      unfold Bp;rw[At (by rw[i];simp),BY (by omega)]
     exact fI g [.tmp 2,.tmp 3] (by rw[h1];exact eR)
    ·have D:Bp d=((Ai (AQ d)).foldl (Fe d (AM d) (AQ d)) [],0):=by
      unfold Bp;rw[At (by rw[i];simp),At (by omega)];rfl
     generalize Ai (AQ d)=f at *;generalize AQ d=codes at *;generalize AM d=all at *;refine AH (ι:={k:Nat//k≤f.length}) (fun k=>⟨[(0,.p Ef d),(5,.p Bt all),(6,.p Qc codes),(8,.p Qc f),(9,.sr 9 V3 0 ((f.take k.1).foldl (Fe d all codes) []).length),(10,.p (.int .i64) (k.1:Int))],[(9,.arr 104 V3 ((f.take k.1).foldl (Fe d all codes) []))]⟩) (fun k=>f.length-k.1) ⟨0,IS _⟩ (AC [(9,.nil)] rfl rfl ?_ ?_) (fun k=>?_)
     ·first|exact eN|refine eM ?_
      rfl
     ·first|exact eN|refine eM ?_
      rfl
     ·obtain⟨k,hk⟩:=k;have C:=Mb d all codes (f.take k) [];have O:(f.take k).length=k:=by rw[OR];exact AB8 hk
      have J:=SN (d:=d) (all:=all) (codes:=codes) (l:=f.take k) (o:=[]) (fun c g=>t c (AA8 g)) (by simp);have L:=fun h:k<f.length=>EJ (Fe d all codes) f [] [] h;rw[O]at C;simp only[AAS,AAC]at C;generalize B:(f.take k).foldl (Fe d all codes) []=out at *;simp only;repeat'(first|exact trivial|refine eS rfl ?_|refine AB ?_|refine rX g ?_ ?_|refine rC ?_ ?_<;>intro a<;>try(cases a;done))
      ·exact⟨a,⟨M,s,by omega,H,N,x,Ky t k⟩,a⟩
      ·have v:k<f.length:=by exact eV
       have e:=L v;have G:=Ky t k;generalize f.getD k []=b at *;unfold Fe at e;generalize F6 d all codes b=nm at *;refine AH (ι:={q:Nat//q≤out.length∧Ez (nm,b) out q=Ez (nm,b) out out.length}) (fun q=>⟨[(0,.p Ef d),(5,.p Bt all),(6,.p Qc codes),(8,.p Qc f),(9,.sr 9 V3 0 out.length),(10,.p (.int .i64) (k:Int)),(11,.bp 11 [] 0),(12,.p (.int .i64) (q.1:Int))],[(9,.arr 104 V3 out),(11,.box 104 true [.p T9 nm,.p Dh b])]⟩) (fun q=>q.1) ⟨out.length,If _,rfl⟩ (AC [(9,.nm 9),(11,.nm 11)] rfl rfl ?_ ?_) (fun q=>?_)
       ·first|exact eN|refine eM ?_
       ·first|exact eN|refine eM ?_
       ·obtain⟨q,j,A⟩:=q;have j:q≤out.length:=j;simp only;repeat'(first|exact trivial|refine eS rfl ?_|refine AB ?_|refine rX g ?_ ?_|refine rC ?_ ?_<;>intro a<;>try(cases a;done))
        ·refine⟨fun h=>by omega,fun h=>by exact eV,fun h=>⟨f4 G (by decide),f4 (J _ (AE out c0 (k:=((q:Int)-1).toNat) (by omega))) (by decide)⟩⟩
        ·omega
        ·obtain⟨P,z⟩:=a;obtain⟨q,rfl⟩:∃r,q=r+1:=⟨q-1,by omega⟩;have m:((q+1:Nat):Int)-1=(q:Int):=by omega
         refine⟨⟨q,by omega,?_⟩,ACr q,AC [(9,.nm 9),(11,.nm 11)] rfl rfl ?_ ?_⟩
         ·rw[←A];rw[m,AA4]at z;show _=if FF (nm,b) (out.getD q c0)=true then Ez (nm,b) out q else q+1
          rw[BY z]
         ·first|exact eN|refine eM ?_
         ·first|exact eN|refine eM ?_
          show (q:Int)+1-1=q;omega
        ·refine⟨iF.2 j,?_⟩;rw[OR];simp only[AO];omega
        ·rw[OR];simp only[AO];omega
        ·refine⟨iF.2 j,?_⟩;rw[OR,AAP];simp only[AO];omega
        ·omega
        ·have K:Ez (nm,b) out q=q:=by
          cases q with
          | zero=>rfl
          | succ q =>
           have m:((q+1:Nat):Int)-1=(q:Int):=by omega
           have:=a (by omega);rw[m,AA4]at this;show (if FF (nm,b) (out.getD q c0)=true then Ez (nm,b) out q else q+1)=q+1;rw[At (by rw[this];simp)]
         unfold WO at e;rw[←A,K]at e;refine⟨⟨k+1,by omega⟩,by simp only;omega,AC [(9,.nm 80)] rfl rfl ?_ ?_⟩
         ·first|exact eN|refine eM ?_
          exact e.symm
         ·first|exact eN|refine eM ?_
          have y:=AB5 List.length e;rw[On,On]at y;exact y.symm
      ·have v:k=f.length:=by exact eV
       rw[v,gO]at B;rw[B]at D;refine GJ [9] ?_;exact fI g [.tmp 2,.tmp 3] (by rw[D];exact eR)
end
theorem Uk {d:List AF}:∀ {l:List (List Int)} {o:List AP} {y:AP},y∈l.foldl (O7 d) o↔y∈o∨∃b∈l,y=(F6 d (AM d) (AQ d) b,b)
 | [],o,y=>by simp
 | b :: l,o,y=>by
  rw[TO,Uk];unfold O7 Fe;rw[YE];simp only[Do];constructor
  ·rintro ((h|h)|⟨c,a,e⟩)
   ·exact .inr ⟨b,.inl rfl,h⟩
   ·exact .inl h
   ·exact .inr ⟨c,.inr a,e⟩
  ·rintro (h|⟨c,rfl|a,e⟩)
   ·exact .inl (.inr h)
   ·exact .inl (.inl e)
   ·exact .inr ⟨c,a,e⟩
theorem C0 {d:List AF} {y:AP}:y∈AJ d↔∃b∈Ai (AQ d),y=(F6 d (AM d) (AQ d) b,b):=by
 unfold AJ;rw[Uk];simp
theorem HJ (d:List AF):(AJ d).length=(Ai (AQ d)).length:=by
 have h:=Mb d (AM d) (AQ d) (Ai (AQ d)) [];rw[AAS,AAC]at h;exact h
theorem rE {l:List (List Int)} {i k:Nat} {c:List Int} (h:c∈l):c∈Fc l i k:=by
 unfold Fc;split
 ·exact ON.2 (.inl h)
 ·exact h
theorem YF {i:Nat} {c:List Int}:∀ {n k:Nat} {l:List (List Int)},c∈l→c∈Fd i n k l
 | 0,_,_,h=>h
 | n+1,k,l,h=>by
  unfold Fd;split
  ·exact YF (rE h)
  ·exact h
theorem YG {c:List Int}:∀ {n i:Nat} {l:List (List Int)},c∈l→c∈HF n i l
 | 0,_,_,h=>h
 | n+1,i,l,h=>by
  unfold HF;split
  ·exact YG (YF h)
  ·exact h
theorem H2 (d:List AF) {i:Nat} (h:i<(AM d).length):(AQ d).getD i []=ED d (AM d) ((AM d).getD i ByteArray.empty):=by
 unfold AQ;simp[AS,h]
theorem iT {d:List AF} (hn:CL d=0) (f:d.length≤(BS d).length) (c:d.length≤256) {j:Nat} (b:j<(AM d).length):∀(m i:Nat) (l:List ByteArray),i+m=(AM d).length→i≤j →
  ∃s,iR d (AM d) (AQ d) ((AQ d).getD j []) m i l=.inl s∧AY s ((AM d).getD j ByteArray.empty)=true
 | 0,i,l,h,g=>by omega
 | m+1,i,l,h,g=>by
  unfold iR;split
  ·rename_i a;refine⟨_,rfl,?_⟩;rw[H2 d (by omega),H2 d b]at a;exact X8 hn f c (by omega) b a
  ·rename_i a;have k:i≠j:=by
    intro e;subst e;exact a (X7 _)
   exact iT hn f c b m (i+1) _ (by omega) (by omega)
theorem iU (s:ByteArray):∀(l:List AP) (k:Nat),Kx s k l<((k+l.length:Nat):Int)
 | [],k=>by simp only[Kx];omega
 | x :: l,k=>by
  simp only[Kx];split
  ·simp only[Is];omega
  ·have:=iU s l (k+1);simp only[Is];omega
theorem iV (s:ByteArray):∀(l:List AP) (k:Nat) (x:AP),x∈l→AY x.1 s=true→0≤Kx s k l
 | [],_,_,h,_=>by cases h
 | y :: l,k,x,h,e=>by
  simp only[Kx];split
  ·omega
  ·rename_i a;rcases Do.1 h with rfl|h
   ·exact absurd e a
   ·exact iV s l (k+1) x h e
theorem HK (l:List AP) (s:ByteArray):BB l s<(l.length:Int):=by
 have:=iU s l 0;rw[AAC]at this;exact this
theorem F7 {d:List AF} (h:Ax d=0) {s:ByteArray} (hs:AR (AM d) s=true):0≤BB (AJ d) s:=by
 obtain⟨-,b,-,hn,f⟩:=Ao h;obtain⟨t,g,e⟩:=OF.1 hs;obtain⟨j,c,rfl⟩:=DK ByteArray.empty g;obtain⟨u,i,a⟩:=iT hn f b c (AM d).length 0 [] (by omega) (by omega);have k:(AQ d).length=(AM d).length:=by simp[AQ]
 refine iV s (AJ d) 0 (u,(AQ d).getD j []) ?_ (A7 a e);rw[C0];refine⟨(AQ d).getD j [],YG (A6 (by omega)),?_⟩;unfold F6;rw[i]
theorem QG {d:List AF} (h:Ax d=0) {x:AF} (a:x∈d):0≤BB (AJ d) x.1:=F7 h (MZ a)
theorem BJ {d:List AF} (h:(Bp d).2=0):Ax d=0∧(Ai (AQ d)).length≤256∧(Bp d).1=AJ d:=by
 unfold Bp at h ⊢;split at h
 ·rename_i h1;exact absurd h h1
 ·rename_i h1;split at h
  ·cases h
  ·rename_i a;exact⟨By h1,by omega,by rw[At h1,At a]⟩
theorem iW {d:List AF} (h:Ax d=0):0<(AJ d).length:=by
 obtain⟨-,-,a,-,-⟩:=Ao h;cases d with
 | nil=>cases a
 | cons x d =>
  have:=QG h (x:=x) (by simp);have b:=HK (AJ (x :: d)) x.1;omega
section
attribute [local go_sem] iP
def A0C (l:List AP) (i k:Int) (m:Nat):Bool:=(m:Int)==i||(m:Int)==k||!KA l k (m:Int)||!KA l (m:Int) i
def lY (l:List AP) (i k:Int) (n:Nat):Bool:=(List.range n).all (A0C l i k)
def lZ (l:List AP) (i:Int) (k:Nat):Bool:=!((k:Int)==i||!KA l (k:Int) i)&&lY l i (k:Int) l.length
def L5 (l:List AP) (i:Int) (n:Nat):List Int:=((List.range n).filter fun(k:Nat)=>lZ l i k).map fun(k:Nat)=>(k:Int)
def Ul (l:List AP) (i:Int):List Int:=L5 l i l.length
theorem aH (l:List AP) (i:Int) (n:Nat):L5 l i (n+1)=L5 l i n++if lZ l i n=true then [(n:Int)] else []:=by
 unfold L5;rw[AAb,ABx,AAM]
 congr 1
 rw[AAr,ABN];split<;>rfl
theorem l0 (l:List AP) (i:Int) (n:Nat):(L5 l i n).length≤n:=by
 unfold L5;rw[AA3];exact f4 (AAZ _ _) (by simp)
theorem l3 (l:List AP) (i k:Int) (n:Nat):lY l i k (n+1)=(lY l i k n&&A0C l i k n):=by
 unfold lY;rw[AAb,ABr];simp
def rF:Ad:={ ins:=[Iu,T3],pre:=fun(l,i,_)=>((0:Int)≤i∧i<(List.length l:Int))∧List.length l≤256∧(∀x∈(l:List AP),x.2.length≤64),out:=fun(l,i,_)=>[.p IJ (Ul l i)] }
theorem yF:Aj Tryz.prog 65 rF:=by
 refine fK [0,1,4,5,6,7,8,12,24,28,56] Tryz.func65 Tryz.ntmps65 (AD iQ AG) ?_;rintro w0 O0 ⟨l,i,u⟩ c-⟨hi,g,o⟩;have g:l.length≤256:=g;have f:∀x∈(l:List AP),x.2.length≤100000:=fun x h=>f4 (o x h) (by decide);simp only[rF,AL];repeat'(first|exact trivial|refine eS rfl ?_|refine AB ?_|refine rX c ?_ ?_|refine rC ?_ ?_<;>intro a<;>try(cases a;done))
 refine AH (ι:={k:Nat//k≤l.length}) (fun k=>⟨[(0,.p Iu l),(1,.p T3 i),(5,.sr 60 T3 0 (L5 l i k.1).length),(6,.p (.int .i64) (k.1:Int))],[(60,.arr 3 T3 (L5 l i k.1))]⟩) (fun k=>l.length-k.1) ⟨0,IS _⟩ (AC [(60,.nil)] rfl rfl ?_ ?_) (fun k=>?_)
 ·first|exact eN|refine eM ?_
  rfl
 ·first|exact eN|refine eM ?_
  rfl
 ·obtain⟨k,hk⟩:=k;have hk:k≤l.length:=hk;have q:=l0 l i k;have hs:=aH l i k;simp only;repeat'(first|exact trivial|refine eS rfl ?_|refine AB ?_|refine rX c ?_ ?_|refine rC ?_ ?_<;>intro a<;>try(cases a;done))
  ·intro h;exact⟨by assumption,hi,f⟩
  ·exact eV
  ·have e:k<l.length:=by exact eV
   have b:lZ l i k=false:=by
    unfold lZ;rw[AAt];left;rw[AAI,AA1,AA0,To];exact a
   rw[b,At (by simp),AAl]at hs;refine⟨⟨k+1,by omega⟩,by simp only;omega,AC [(60,.nm 60)] rfl rfl ?_ ?_⟩
   ·simp only[hs];first|exact eN|refine eM ?_
   ·simp only[hs];first|exact eN|refine eM ?_
  ·have e:k<l.length:=by exact eV
   have b:lZ l i k=lY l i (k:Int) l.length:=by
    unfold lZ;rw[show ((k:Int)==i||!KA l (k:Int) i)=false by
     rw[AAi,ABu,AAI];exact a]
    rfl
   refine AH (ι:={m:Nat//m≤l.length}) (fun m=>⟨[(0,.p Iu l),(1,.p T3 i),(5,.sr 60 T3 0 (L5 l i k).length),(6,.p (.int .i64) (k:Int)),(7,.p .bool (lY l i (k:Int) m.1)),(8,.p (.int .i64) (m.1:Int))],[(60,.arr 3 T3 (L5 l i k))]⟩) (fun m=>l.length-m.1) ⟨0,IS _⟩ (AC [(60,.nm 60)] rfl rfl ?_ ?_) (fun m=>?_)
   ·first|exact eN|refine eM ?_
   ·first|exact eN|refine eM ?_
    rfl
   ·obtain⟨m,j⟩:=m;have j:m≤l.length:=j;have n:=l3 l i (k:Int) m;simp only;repeat'(first|exact trivial|refine eS rfl ?_|refine AB ?_|refine rX c ?_ ?_|refine rC ?_ ?_<;>intro a<;>try(cases a;done))
    ·exact⟨fun h=>⟨by assumption,a,f⟩,fun h=>⟨a,hi,f⟩⟩
    ·exact eV
    ·have d:m<l.length:=by exact eV
     refine⟨⟨m+1,by omega⟩,by simp only;omega,AC [(60,.nm 60)] rfl rfl ?_ ?_⟩
     ·first|exact eN|refine eM ?_
     ·simp only[n];unfold A0C;first|exact eN|refine eM ?_
    ·simp only[AO];dsimp only[Ty.den]at *;omega
    ·exact eV
    ·have d:m=l.length:=by exact eV
     subst d;rw[b,BY a]at hs;refine⟨⟨k+1,by omega⟩,by simp only;omega,AC [(60,.nm 60)] rfl rfl ?_ ?_⟩
     ·simp only[hs];first|exact eN|refine eM ?_
     ·simp only[hs];first|exact eN|refine eM ?_
    ·exact eV
    ·have d:m=l.length:=by exact eV
     subst d;rw[b,At (by rw[a];simp),AAl]at hs;refine⟨⟨k+1,by omega⟩,by simp only;omega,AC [(60,.nm 60)] rfl rfl ?_ ?_⟩
     ·simp only[hs];first|exact eN|refine eM ?_
     ·simp only[hs];first|exact eN|refine eM ?_
  ·have e:k=l.length:=by exact eV
   subst e;refine GJ [60] ?_;exact fI c [.tmp 4] (by unfold Ul;exact eR)
end
section
attribute [local go_sem] NQ R9 IL
abbrev FV:=ByteArray×ByteArray
abbrev yG:FV:=(ByteArray.empty,ByteArray.empty)
def nT (all:List ByteArray) (l:List FV):Nat→List FV→Int
 | _,[]=>0
 | k,x :: r=>if EB x.1 true=false then 1 else if ((l.take k).any fun y=>AY y.1 x.1)=true then 4 else if AR all x.2=false then 5 else nT all l (k+1) r
def WP (all:List ByteArray):List AF→Int
 | []=>0
 | x :: l=>if nT all x.2.2 0 x.2.2≠0 then nT all x.2.2 0 x.2.2 else WP all l
def Jr (d:List AF):Int:=WP (AM d) d
theorem rG (all:List ByteArray) (l:List FV) {k:Nat} (h:k<l.length):nT all l k (l.drop k)=if EB (l.getD k yG).1 true=false then 1 else if ((l.take k).any fun y=>AY y.1 (l.getD k yG).1)=true then 4 else if AR all (l.getD k yG).2=false then 5 else nT all l (k+1) (l.drop (k+1)):=by
 rw[OS h];have e:l.getD k yG=l[k]:=by simp[AS,h]
 rw[e];rfl
theorem l4 (all:List ByteArray) (l:List AF) {k:Nat} (h:k<l.length):WP all (l.drop k)=if nT all (l.getD k d0).2.2 0 (l.getD k d0).2.2≠0 then nT all (l.getD k d0).2.2 0 (l.getD k d0).2.2 else WP all (l.drop (k+1)):=by
 rw[OS h];have e:l.getD k d0=l[k]:=by simp[AS,h]
 rw[e];rfl
def aI:Ad:={ ins:=[Ef],pre:=fun(d,_)=>List.length d≤256,out:=fun(d,_)=>[.p TU (Jr d)] }
theorem rH:Aj Tryz.prog 121 aI:=by
 refine fK [0,2,3,4,5,6,7,13,24,33,36,49,57] Tryz.func121 Tryz.ntmps121 (AD UZ (AD Zz (AD F4 AG))) ?_;rintro w0 O0 ⟨d,u⟩ c ⟨⟨x,v⟩,-⟩ j;have j:d.length≤256:=j;simp only[aI,AL];repeat'(first|exact trivial|refine eS rfl ?_|refine AB ?_|refine rX c ?_ ?_|refine rC ?_ ?_<;>intro a<;>try(cases a;done))
 ·exact f4 j (by decide)
 ·have w:Jr d=WP (AM d) d:=rfl;rw[w];generalize AM d=all at *;refine AH (ι:={i:Nat//i≤d.length∧WP all (d.drop i)=WP all d}) (fun i=>⟨[(0,.p Ef d),(3,.p Bt all),(4,.p (.int .i64) (i.1:Int))],[]⟩) (fun i=>d.length-i.1) ⟨0,IS _,rfl⟩ (AC [] rfl rfl ?_ ?_) (fun i=>?_)
  ·first|exact eN|refine eM ?_
  ·first|exact eN|refine eM ?_
  ·obtain⟨i,hi,hf⟩:=i;simp only;repeat'(first|exact trivial|refine eS rfl ?_|refine AB ?_|refine rX c ?_ ?_|refine rC ?_ ?_<;>intro a<;>try(cases a;done))
   ·exact a
   ·have o:i<d.length:=by exact eV
    rw[l4 all d o]at hf;have A:(d.getD i d0).2.2.length≤AO:=(v _ (AE d d0 o)).2.2.1;have z:(List.getD d i (ByteArray.empty,[],[])).2.2=(d.getD i d0).2.2:=rfl;rw[z];generalize (d.getD i d0).2.2=l at *;simp only[AO]at A;refine AH (ι:={k:Nat//k≤l.length∧nT all l k (l.drop k)=nT all l 0 l}) (fun k=>⟨[(0,.p Ef d),(3,.p Bt all),(4,.p (.int .i64) (i:Int)),(5,.p Xm l),(6,.p (.int .i64) (k.1:Int))],[]⟩) (fun k=>l.length-k.1) ⟨0,IS _,rfl⟩ (AC [] rfl rfl ?_ ?_) (fun k=>?_)
    ·first|exact eN|refine eM ?_
    ·first|exact eN|refine eM ?_
    ·obtain⟨k,hk,b⟩:=k;have r:=fun h:k<l.length=>rG all l h;simp only;repeat'(first|exact trivial|refine eS rfl ?_|refine AB ?_|refine rX c ?_ ?_|refine rC ?_ ?_<;>intro a<;>try(cases a;done))
     ·exact a
     ·have e:k<l.length:=by exact eV
      rw[r e,BY a]at b;rw[←b,BY (by decide)]at hf;exact fI c [.tmp 2] (by rw[←hf];exact eR)
     ·have e:k<l.length:=by exact eV
      have q:(k:Int)<(l.length:Int):=OM.2 e;rw[r e,At (by rw[a];simp)]at b;refine AH (ι:={m:Nat//m≤k∧((l.take m).any fun y=>AY y.1 (l.getD k yG).1)=false}) (fun m=>⟨[(0,.p Ef d),(3,.p Bt all),(4,.p (.int .i64) (i:Int)),(5,.p Xm l),(6,.p (.int .i64) (k:Int)),(7,.p (.int .i64) (m.1:Int))],[]⟩) (fun m=>k-m.1) ⟨0,IS _,rfl⟩ (AC [] rfl rfl ?_ ?_) (fun m=>?_)
      ·first|exact eN|refine eM ?_
      ·first|exact eN|refine eM ?_
      ·obtain⟨m,B,g⟩:=m;have s:=fun h:m<l.length=>La l yG (fun y=>AY y.1 (l.getD k yG).1) h;simp only;repeat'(first|exact trivial|refine eS rfl ?_|refine AB ?_|refine rX c ?_ ?_|refine rC ?_ ?_<;>intro a<;>try(cases a;done))
       ·have h1:(m:Int)<(k:Int):=a;exact⟨by exact eV,q⟩
       ·have f:m<k:=OM.1 (by assumption);have n:=s (by omega);have t:((l.take k).any fun y=>AY y.1 (l.getD k yG).1)=true:=by
         rw[OF];exact⟨l.getD m yG,by
          rw[ABk];refine⟨m,by omega,?_⟩;simp[AS,show m<l.length by omega],a⟩
        rw[BY t]at b;rw[←b,BY (by decide)]at hf;exact fI c [.tmp 2] (by rw[←hf];exact eR)
       ·omega
       ·have f:m<k:=OM.1 (by assumption);have n:=s (by omega);refine⟨⟨m+1,by omega,?_⟩,by simp only;omega,AC [] rfl rfl ?_ ?_⟩
        ·rw[n,g];exact a
        ·first|exact eN|refine eM ?_
        ·first|exact eN|refine eM ?_
       ·exact q
       ·have f:m=k:=by omega
        subst f;rw[At (by rw[g];simp),BY a]at b;rw[←b,BY (by decide)]at hf;exact fI c [.tmp 2] (by rw[←hf];exact eR)
       ·have:=x;simp only[AO]at this;omega
       ·have f:m=k:=by omega
        subst f;rw[At (by rw[g];simp),At (by rw[a];simp)]at b;refine⟨⟨m+1,by omega,b⟩,by simp only;omega,AC [] rfl rfl ?_ ?_⟩
        ·first|exact eN|refine eM ?_
        ·first|exact eN|refine eM ?_
     ·omega
     ·have e:l.drop k=[]:=IF (iF.1 a);rw[e]at b;rw[←b,At (by simp[nT])]at hf;refine⟨⟨i+1,by omega,hf⟩,by simp only;omega,AC [] rfl rfl ?_ ?_⟩
      ·first|exact eN|refine eM ?_
      ·first|exact eN|refine eM ?_
   ·have e:d.drop i=[]:=IF (by exact eV);rw[e]at hf;exact fI c [.tmp 2] (by rw[←hf];first|exact eR|refine lE ?_;rfl)
end
section
attribute [local go_sem] WI V7 Kw cs0
def GR (s:ByteArray) (o:List ByteArray) (x:AF):List ByteArray:=if (Ck x s).2=true then Ds o x.1 else o
def Ei (d:List AF) (s:ByteArray):List ByteArray:=d.foldl (GR s) []
theorem aJ (s:ByteArray) (d:List AF) (k:Nat):(Ei (d.take k) s).length≤k:=by
 have key:∀(l:List AF) (o:List ByteArray),(l.foldl (GR s) o).length≤o.length+l.length:=by
  intro l;induction l with
  | nil=>intro o;simp
  | cons x l b =>
   intro o;have h1:=b (GR s o x);have a:(GR s o x).length≤o.length+1:=by
    unfold GR;split
    ·exact Ku o x.1
    ·omega
   simp only[TO,Is];omega
 have h1:=key (d.take k) [];have a:=AAk k d;unfold Ei;simp only[AAS]at h1;omega
def DA (d:List AF) (s:ByteArray):ByteArray×Bool:=if (Aq d (Ei d s)).length=1 then ((Aq d (Ei d s)).getD 0 ByteArray.empty,true) else (ByteArray.empty,false)
def WQ:Ad:={ ins:=[Ef,T9],pre:=fun(d,_,_)=>NR d∧List.length d≤256,out:=fun(d,s,_)=>[.p T9 (DA d s).1,.p .bool (DA d s).2] }
theorem YH:Aj Tryz.prog 104 WQ:=by
 refine fK [0,1,4,5,6,7,9,10,14,26,39] Tryz.func104 Tryz.ntmps104 (AD X2 (AD Ow (AD SE AG))) ?_;rintro w0 O0 ⟨d,s,u⟩ c-⟨l,f⟩;have f:d.length≤256:=f;simp only[WQ,AL];repeat'(first|exact trivial|refine eS rfl ?_|refine AB ?_|refine rX c ?_ ?_|refine rC ?_ ?_<;>intro a<;>try(cases a;done))
 refine AH (ι:={i:Nat//i≤d.length}) (fun i=>⟨[(0,.p Ef d),(1,.p T9 s),(6,.p Bt (Ei (d.take i.1) s)),(7,.p (.int .i64) (i.1:Int))],[]⟩) (fun i=>d.length-i.1) ⟨0,IS _⟩ (AC [] rfl rfl ?_ ?_) (fun i=>?_)
 ·first|exact eN|refine eM ?_
 ·first|exact eN|refine eM ?_
  rfl
 ·obtain⟨i,hi⟩:=i;have hi:i≤d.length:=hi;have hn:=aJ s d i;have hs:=fun h:i<d.length=>EJ (GR s) d d0 [] h;have j:∀e,Ei e s=e.foldl (GR s) []:=fun _=>rfl;rw[←j,←j]at hs;unfold GR at hs;simp only;repeat'(first|exact trivial|refine eS rfl ?_|refine AB ?_|refine rX c ?_ ?_|refine rC ?_ ?_<;>intro a<;>try(cases a;done))
  ·exact a
  ·exact⟨by assumption,by omega⟩
  ·exact eV
  ·have b:i<d.length:=by exact eV
   have e:=hs b;rw[BY a]at e;refine⟨⟨i+1,by omega⟩,by simp only;omega,AC [] rfl rfl ?_ ?_⟩
   ·first|exact eN|refine eM ?_
   ·simp only[e];first|exact eN|refine eM ?_
  ·exact eV
  ·have b:i<d.length:=by exact eV
   have e:=hs b;rw[At (by rw[a];simp)]at e;refine⟨⟨i+1,by omega⟩,by simp only;omega,AC [] rfl rfl ?_ ?_⟩
   ·first|exact eN|refine eM ?_
   ·simp only[e];first|exact eN|refine eM ?_
  ·exact⟨l,f,by omega⟩
  ·have b:d.take i=d:=As (by exact eV);rw[b]at a ⊢;have h1:DA d s=(ByteArray.empty,false):=by
    unfold DA;rw[At (by omega)]
   exact fI c [.tmp 4,.tmp 5] (by rw[h1];first|exact eR|refine lE ?_;first|rfl|exact⟨rfl,rfl⟩)
  ·have g:((Aq d (Ei (d.take i) s)).length:Int)=1:=by simpa using a
   have k:(0:Int)<((Aq d (Ei (d.take i) s)).length:Int):=by rw[g];decide
   exact k
  ·have b:d.take i=d:=As (by exact eV);rw[b]at a ⊢;have g:((Aq d (Ei d s)).length:Int)=1:=by simpa using a
   have h1:DA d s=((Aq d (Ei d s)).getD 0 ByteArray.empty,true):=by
    unfold DA;rw[BY (by omega)]
   exact fI c [.tmp 4,.tmp 5] (by rw[h1];exact eR)
end
section
attribute [local go_sem] WI Q1 iP qL
def I0 (l:List AP) (t:Int) (s:ByteArray) (o:List Int×Bool) (x:AF):List Int×Bool :=
 if (!(Ck x s).2||!KA l (BB l x.1) t)=true then o else (Dt o.1 (l.getD (BB l (Ck x s).1).toNat c0).2,true)
def ET (d:List AF) (l:List AP) (t:Int) (s:ByteArray):List Int×Bool:=d.foldl (I0 l t s) ((l.getD 0 c0).2,false)
def aK (d:List AF) (l:List AP):Prop:=(∀x∈d,0≤BB l x.1)∧∀x∈d,∀y∈x.2.2,0≤BB l y.2
theorem YI (s:ByteArray):∀(l:List (ByteArray×ByteArray)),(X0 s l).2=true→∃y∈l,y.2=(X0 s l).1
 | [],h=>by cases h
 | x :: l,h=>by
  simp only[X0]at h ⊢;split at h
  ·rename_i h1;rw[BY h1];exact⟨x,by simp,rfl⟩
  ·rename_i h1;rw[At h1];obtain⟨y,a,e⟩:=YI s l h;exact⟨y,by simp[a],e⟩
theorem aK.value {d:List AF} {l:List AP} (h:aK d l) {x:AF} (b:x∈d) {s:ByteArray} (a:(Ck x s).2=true):0≤BB l (Ck x s).1:=by
 obtain⟨y,c,e⟩:=YI s x.2.2 a;have:=h.2 x b y c;rw[e]at this;exact this
theorem rI {l:List AP} (t:Int) (s:ByteArray) (x:AF) {o:List Int×Bool} (h:o.1.length≤64):(I0 l t s o x).1.length≤64:=by
 unfold I0;split
 ·exact h
 ·exact f4 (X3 _ _) h
theorem SP {l:List AP} (t:Int) (s:ByteArray):∀(d:List AF) {o:List Int×Bool},o.1.length≤64→(d.foldl (I0 l t s) o).1.length≤64
 | [],_,h=>h
 | x :: d,_,h=>by rw[TO];exact SP t s d (rI t s x h)
theorem YJ (s:ByteArray):∀(l:List AP) (k:Nat),Kx s k l<((k+l.length:Nat):Int)
 | [],k=>by simp only[Kx];omega
 | x :: l,k=>by
  simp only[Kx];split
  ·simp only[Is];omega
  ·have:=YJ s l (k+1);simp only[Is];omega
theorem QH (l:List AP) (s:ByteArray):BB l s<(l.length:Int):=by
 have:=YJ s l 0;rw[AAC]at this;exact this
def yH:Ad:={ ins:=[Ef,Iu,T3,T9],pre:=fun(d,l,t,_,_)=>aK d l∧((0:Int)≤t∧t<(List.length l:Int))∧List.length l≤256∧(∀x∈(l:List AP),x.2.length≤64),out:=fun(d,l,t,s,_)=>[.p Dh (ET d l t s).1,.p .bool (ET d l t s).2] }
theorem rJ:Aj Tryz.prog 95 yH:=by
 refine fK [0,1,2,3,8,9,10,11,12,13,14,22,48] Tryz.func95 Tryz.ntmps95 (AD X2 (AD Ud (AD iQ (AD Z0 AG)))) ?_;rintro w0 O0 ⟨d,l,t,s,u⟩ f ⟨⟨A,G⟩,-⟩ ⟨r,j,n,w⟩;have n:l.length≤256:=n;have F:∀x∈(l:List AP),x.2.length≤100000:=fun x h=>f4 (w x h) (by decide);have q:0<List.length l:=OM.1 (ACh j.1 j.2);simp only[AO]at A;simp only[yH,AL];repeat'(first|exact trivial|refine eS rfl ?_|refine AB ?_|refine rX f ?_ ?_|refine rC ?_ ?_<;>intro a<;>try(cases a;done))
 ·exact OM.2 q
 ·have m:ET d l t s=d.foldl (I0 l t s) ((l.getD 0 c0).2,false):=rfl;have y:(l.getD 0 c0).2.length≤64:=w _ (AE l c0 q);have z:(List.getD l 0 (ByteArray.empty,[])).2=(l.getD 0 c0).2:=rfl;rw[z];generalize (l.getD 0 c0).2=c at *;refine AH (ι:={i:Nat//i≤d.length}) (fun i=>⟨[(0,.p Ef d),(1,.p Iu l),(2,.p T3 t),(3,.p T9 s),(10,.p .bool ((d.take i.1).foldl (I0 l t s) (c,false)).2),(11,.p Dh ((d.take i.1).foldl (I0 l t s) (c,false)).1),(12,.p (.int .i64) (i.1:Int))],[]⟩) (fun i=>d.length-i.1) ⟨0,IS _⟩ (AC [] rfl rfl ?_ ?_) (fun i=>?_)
  ·first|exact eN|refine eM ?_
  ·first|exact eN|refine eM ?_
   exact⟨rfl,rfl⟩
  ·obtain⟨i,hi⟩:=i;have hi:i≤d.length:=hi;have B:=SP (l:=l) t s (d.take i) (o:=(c,false)) y;have hs:=fun h:i<d.length=>EJ (I0 l t s) d d0 (c,false) h;have E:=fun h:i<d.length=>r.1 _ (AE d d0 h);have D:=fun(h:i<d.length) (g:(Ck (d.getD i d0) s).2=true)=>r.value (AE d d0 h) g;have k:∀o x,I0 l t s o x=(if (!(Ck x s).2||!KA l (BB l x.1) t)=true then o else (Dt o.1 (l.getD (BB l (Ck x s).1).toNat c0).2,true)):=fun _ _=>rfl;generalize v:(d.take i).foldl (I0 l t s) (c,false)=o at *;simp only;repeat'(first|exact trivial|refine eS rfl ?_|refine AB ?_|refine rX f ?_ ?_|refine rC ?_ ?_<;>intro a<;>try(cases a;done))
   ·exact a
   ·have b:i<d.length:=OM.1 a;exact⟨fun _=>a,fun _=>⟨⟨E b,QH _ _⟩,j,F⟩⟩
   ·exact eV
   ·have b:i<d.length:=OM.1 (by assumption);have e:=hs b;rw[k,BY (by rw[AA1,To,To];exact a)]at e;refine⟨⟨i+1,by omega⟩,by simp only;omega,AC [] rfl rfl ?_ ?_⟩
    ·first|exact eN|refine eM ?_
    ·first|exact eN|refine eM ?_
     rw[e];exact⟨rfl,rfl⟩
   ·have b:i<d.length:=OM.1 (by assumption);exact⟨⟨D b a.1,QH _ _⟩,f4 B (by decide)⟩
   ·exact eV
   ·have b:i<d.length:=OM.1 (by assumption);have e:=hs b;have C:¬(!(Ck (d.getD i d0) s).2||!KA l (BB l (d.getD i d0).1) t)=true:=by
     rw[AA1,To,To];rintro (h|h)
     ·rw[show (Ck (d.getD i d0) s).2=true from a.1]at h;cases h
     ·rw[show KA l (BB l (d.getD i d0).1) t=true from a.2]at h;cases h
    rw[k,At C]at e;refine⟨⟨i+1,by omega⟩,by simp only;omega,AC [] rfl rfl ?_ ?_⟩
    ·first|exact eN|refine eM ?_
    ·first|exact eN|refine eM ?_
     rw[e];exact⟨rfl,rfl⟩
   ·have b:d.take i=d:=As (iF.1 a);rw[b]at v;rw[v]at m;exact fI f [.tmp 8,.tmp 9] (by rw[m];exact eR)
end
theorem QI:∀ {l:List AF},Ks l=0→∀x∈l,x.2.1.length≤256∧x.2.2.length≤256
 | [],_,x,a=>by cases a
 | y :: l,h,x,a=>by
  simp only[Ks]at h;split at h
  ·cases h
  ·rename_i h1;rcases Do.1 a with rfl|a
   ·exact⟨by omega,by omega⟩
   ·exact QI h x a
theorem Js {d:List AF} (h:Ax d=0):∀x∈d,x.2.1.length≤256∧x.2.2.length≤256:=by
 have h1:ER d=0:=by
  unfold Ax at h;split at h
  ·rename_i h1;exact absurd h h1
  ·rename_i h1;exact By h1
 unfold ER at h1;split at h1
 ·cases h1
 ·exact QI h1
theorem Md {d:List AF} (h:Ax d=0):∀x∈AJ d,x.2.length≤64:=by
 intro x e;obtain⟨-,a,-⟩:=Ao h;obtain⟨b,c,rfl⟩:=C0.1 e;exact Ni (Mc a) b c
theorem YK {all:List ByteArray} {l:List FV}:∀ {r:List FV} {k:Nat},nT all l k r=0→∀y∈r,AR all y.2=true
 | [],_,_,y,a=>by cases a
 | x :: r,k,h,y,a=>by
  simp only[nT]at h;split at h
  ·cases h
  ·split at h
   ·cases h
   ·split at h
    ·cases h
    ·rename_i b;rcases Do.1 a with rfl|a
     ·simpa using b
     ·exact YK h y a
theorem Um {all:List ByteArray}:∀ {l:List AF},WP all l=0→∀x∈l,∀y∈x.2.2,AR all y.2=true
 | [],_,x,a=>by cases a
 | z :: l,h,x,a=>by
  simp only[WP]at h;split at h
  ·rename_i h1;exact absurd h h1
  ·rename_i h1;rcases Do.1 a with rfl|a
   ·exact YK (By h1)
   ·exact Um h x a
theorem Nk {d:List AF} (h:Ax d=0) (b:Jr d=0):aK d (AJ d) :=
 ⟨fun x a=>QG h a,fun x a y c=>F7 h (Um b x a y c)⟩
section
attribute [local go_sem] O8 SG aI WQ yH
def Jt (d:List AF) (l:List AP) (t:Nat) (s:ByteArray):Bool:=(ET d l (t:Int) s).2&&((ET d l (t:Int) s).1.length:Int)==0
def WR (d:List AF) (l:List AP) (f:List ByteArray) (t:Nat):Bool:=f.any (Jt d l t)
def HL (d:List AF) (l:List AP) (f:List ByteArray) (n:Nat):Bool:=(List.range n).any (WR d l f)
theorem YL (d:List AF) (l:List AP) (f:List ByteArray) (n:Nat):HL d l f (n+1)=(HL d l f n||WR d l f n):=by
 unfold HL;rw[AAb,ABO];simp
def Am (d:List AF):Int :=
 if (Bp d).2≠0 then (Bp d).2 else if 64<(BC d).length then 7 else if Jr d≠0 then Jr d else
 if ((BC d).all fun s=>(DA d s).2)=false then 10 else if HL d (Bp d).1 (BC d) (Bp d).1.length=true then 11 else 0
def Q2:Ad:={ ins:=[Ef],pre:=fun _=>True,out:=fun(d,_)=>[.p TU (Am d)] }
theorem Un:Aj Tryz.prog 93 Q2:=by
 refine fK [0,2,3,4,5,6,7,9,10,11,12,13,20,26,30,35,48,52,58,77] Tryz.func93 Tryz.ntmps93 (AD Nj (AD SH (AD rH (AD YH (AD rJ AG))))) ?_;rintro w0 O0 ⟨d,u⟩ b - -;simp only[Q2,AL];repeat'(first|exact trivial|refine eS rfl ?_|refine AB ?_|refine rX b ?_ ?_|refine rC ?_ ?_<;>intro a<;>try(cases a;done))
 ·have h1:Am d=(Bp d).2:=by unfold Am;rw[BY a]
  exact fI b [.tmp 2] (by rw[h1];exact eR)
 ·have c:(Bp d).2=0:=by simpa using a
  obtain⟨e,-,-⟩:=BJ c;obtain⟨-,r,-⟩:=Ao e;exact⟨r,fun x L=>(Js e x L).2⟩
 ·have c:(Bp d).2=0:=by simpa using ‹((Bp d).2 != 0)=false›
  have h1:Am d=7:=by
   unfold Am;rw[At (by rw[c];simp),BY (by omega)]
  exact fI b [.tmp 2] (by rw[h1];exact eR)
 ·have c:(Bp d).2=0:=by simpa using ‹((Bp d).2 != 0)=false›
  obtain⟨e,-,-⟩:=BJ c;exact(Ao e).2.1
 ·have c:(Bp d).2=0:=by simpa using ‹((Bp d).2 != 0)=false›
  have h1:Am d=Jr d:=by
   unfold Am;rw[At (by rw[c];simp),At (by omega),BY a]
  exact fI b [.tmp 2] (by rw[h1];exact eR)
 ·have c:(Bp d).2=0:=by simpa using ‹((Bp d).2 != 0)=false›
  have v:Jr d=0:=by simpa using a
  obtain⟨e,C,B⟩:=BJ c;obtain⟨H,r,-⟩:=Ao e;have E:=Nk e v;have K:=Md e;have M:=iW e;have D:(AJ d).length≤256:=by rw[HJ];exact C
  have g:Am d=if ((BC d).all fun s=>(DA d s).2)=false then 10 else if HL d (Bp d).1 (BC d) (Bp d).1.length=true then 11 else 0:=by
   unfold Am;rw[At (by rw[c];simp),At (by omega),At (by rw[v];simp)]
  rw[B]at g ⊢;generalize AJ d=l at *;generalize BC d=f at *;refine AH (ι:={i:Nat//i≤f.length∧((f.take i).all fun s=>(DA d s).2)=true}) (fun i=>⟨[(0,.p Ef d),(3,.p Iu l),(5,.p Bt f),(7,.p (.int .i64) (i.1:Int))],[]⟩) (fun i=>f.length-i.1) ⟨0,IS _,rfl⟩ (AC [] rfl rfl ?_ ?_) (fun i=>?_)
  ·first|exact eN|refine eM ?_
  ·first|exact eN|refine eM ?_
  ·obtain⟨i,hi,n⟩:=i;have G:=fun h:i<f.length=>Fb f ByteArray.empty (fun s=>(DA d s).2) h;simp only;repeat'(first|exact trivial|refine eS rfl ?_|refine AB ?_|refine rX b ?_ ?_|refine rC ?_ ?_<;>intro a<;>try(cases a;done))
   ·exact⟨a,H,r⟩
   ·have j:i<f.length:=OM.1 (by assumption);have z:(f.all fun s=>(DA d s).2)=false:=by
     rw[ABT];intro h;have:=DO.1 h _ (AE f ByteArray.empty j);rw[show (DA d (f.getD i ByteArray.empty)).2=false from a]at this;cases this
    rw[BY z]at g;exact fI b [.tmp 2] (by rw[g];exact eR)
   ·omega
   ·have j:i<f.length:=OM.1 (by assumption);refine⟨⟨i+1,j,?_⟩,by simp only;omega,AC [] rfl rfl ?_ ?_⟩
    ·rw[G j,n];exact a
    ·first|exact eN|refine eM ?_
    ·first|exact eN|refine eM ?_
   ·have j:f.take i=f:=As (iF.1 a);rw[j]at n;rw[At (by rw[n];simp)]at g;refine AH (ι:={t:Nat//t≤l.length∧HL d l f t=false}) (fun t=>⟨[(0,.p Ef d),(3,.p Iu l),(5,.p Bt f),(10,.p (.int .i64) (t.1:Int))],[]⟩) (fun t=>l.length-t.1) ⟨0,IS _,rfl⟩ (AC [] rfl rfl ?_ ?_) (fun t=>?_)
    ·first|exact eN|refine eM ?_
    ·first|exact eN|refine eM ?_
    ·obtain⟨t,N,y⟩:=t;have J:=YL d l f t;simp only;repeat'(first|exact trivial|refine eS rfl ?_|refine AB ?_|refine rX b ?_ ?_|refine rC ?_ ?_<;>intro a<;>try(cases a;done))
     ·have w:t<l.length:=OM.1 a;refine AH (ι:={k:Nat//k≤f.length∧(f.take k).any (Jt d l t)=false}) (fun k=>⟨[(0,.p Ef d),(3,.p Iu l),(5,.p Bt f),(10,.p (.int .i64) (t:Int)),(11,.p (.int .i64) (k.1:Int))],[]⟩) (fun k=>f.length-k.1) ⟨0,IS _,rfl⟩ (AC [] rfl rfl ?_ ?_) (fun k=>?_)
      ·first|exact eN|refine eM ?_
      ·first|exact eN|refine eM ?_
      ·obtain⟨k,hk,o⟩:=k;have F:=fun h:k<f.length=>La f ByteArray.empty (Jt d l t) h;simp only;repeat'(first|exact trivial|refine eS rfl ?_|refine AB ?_|refine rX b ?_ ?_|refine rC ?_ ?_<;>intro a<;>try(cases a;done))
       ·exact⟨a,E,by assumption,D,K⟩
       ·have m:k<f.length:=OM.1 (by assumption);have q:Jt d l t (f.getD k ByteArray.empty)=true:=by
         unfold Jt;rw[An,AA0];exact a
        have A:HL d l f l.length=true:=by
         unfold HL;rw[OF];exact⟨t,oN.2 w,F3 f ByteArray.empty _ m q⟩
        rw[BY A]at g;exact fI b [.tmp 2] (by rw[g];exact eR)
       ·omega
       ·have m:k<f.length:=OM.1 (by assumption);have q:Jt d l t (f.getD k ByteArray.empty)=false:=by
         rw[ABT];unfold Jt;intro h;rw[An,AA0]at h;exact a h.1 h.2
        refine⟨⟨k+1,m,?_⟩,by simp only;omega,AC [] rfl rfl ?_ ?_⟩
        ·rw[F m,o,q];rfl
        ·first|exact eN|refine eM ?_
        ·first|exact eN|refine eM ?_
       ·omega
       ·have m:f.take k=f:=As (iF.1 a);rw[m]at o;refine⟨⟨t+1,w,?_⟩,by simp only;omega,AC [] rfl rfl ?_ ?_⟩
        ·rw[J,y];exact o
        ·first|exact eN|refine eM ?_
        ·first|exact eN|refine eM ?_
     ·have I:t=l.length:=by exact eV
      subst I;rw[At (by rw[y];simp)]at g;exact fI b [.tmp 2] (by rw[g];exact eR)
end
section
attribute [local go_sem] Q2 O8 SG WQ Q1
abbrev rK:=ByteArray×Int
theorem Bv {d:List AF} (h:Am d=0):(Bp d).2=0∧(BC d).length≤64∧Jr d=0:=by
 unfold Am at h;split at h
 ·rename_i h1;exact absurd h h1
 ·rename_i h1;split at h
  ·cases h
  ·rename_i b;split at h
   ·rename_i a;exact absurd h a
   ·rename_i a;exact⟨By h1,by omega,By a⟩
def Nl (d:List AF) (s:ByteArray):rK:=(s,BB (AJ d) (DA d s).1)
def Dn (d:List AF):List rK×Int:=if Am d≠0 then ([],Am d) else ((BC d).map (Nl d),0)
theorem Tf {α β:Type} (f:α→β) (l:List α) (d:α) {k:Nat} (h:k<l.length):(l.take (k+1)).map f=(l.take k).map f++[f (l.getD k d)]:=by
 rw[Ae l d h,AAM];rfl
theorem WS {α β:Type} (f:α→β) (l:List α) {k:Nat} (h:k≤l.length):((l.take k).map f).length=k:=by simp[h]
def O9:Ad:={ ins:=[Ef],pre:=fun _=>True,out:=fun(d,_)=>[.p TV (Dn d).1,.p TU (Dn d).2] }
theorem YM:Aj Tryz.prog 66 O9:=by
 refine fK [0,2,3,4,5,7,8,9,10,15,27] Tryz.func66 Tryz.ntmps66 (AD Un (AD Nj (AD SH (AD YH (AD Ud AG))))) ?_;rintro w0 O0 ⟨d,u⟩ g - -;simp only[O9,AL];repeat'(first|exact trivial|refine eS rfl ?_|refine AB ?_|refine rX g ?_ ?_|refine rC ?_ ?_<;>intro a<;>try(cases a;done))
 ·have h1:Dn d=([],Am d):=by unfold Dn;rw[BY a]
  exact fI g [.tmp 2,.tmp 3] (by rw[h1];exact eR)
 ·have c:Am d=0:=by simpa using a
  obtain⟨k,-,-⟩:=Bv c;obtain⟨b,-,-⟩:=BJ k;exact⟨(Ao b).2.1,fun x r=>(Js b x r).2⟩
 ·have c:Am d=0:=by simpa using a
  obtain⟨k,s,-⟩:=Bv c;obtain⟨b,-,m⟩:=BJ k;obtain⟨q,l,-⟩:=Ao b;have o:Dn d=((BC d).map (Nl d),0):=by unfold Dn;rw[At (by rw[c];simp)]
  rw[m];generalize BC d=f at *;refine AH (ι:={i:Nat//i≤f.length}) (fun i=>⟨[(0,.p Ef d),(5,.p Iu (AJ d)),(7,.p Bt f),(8,.sr 49 p7 0 ((f.take i.1).map (Nl d)).length),(9,.p (.int .i64) (i.1:Int))],[(49,.arr 116 p7 ((f.take i.1).map (Nl d)))]⟩) (fun i=>f.length-i.1) ⟨0,IS _⟩ (AC [(49,.nil)] rfl rfl ?_ ?_) (fun i=>?_)
  ·first|exact eN|refine eM ?_
  ·first|exact eN|refine eM ?_
  ·obtain⟨i,hi⟩:=i;have n:=WS (Nl d) f hi;have hs:=fun h:i<f.length=>Tf (Nl d) f ByteArray.empty h;simp only;repeat'(first|exact trivial|refine eS rfl ?_|refine AB ?_|refine rX g ?_ ?_|refine rC ?_ ?_<;>intro a<;>try(cases a;done))
   ·exact⟨a,q,l⟩
   ·refine⟨a,?_⟩;rw[n];simp only[AO];omega
   ·omega
   ·have j:i<f.length:=OM.1 a;have e:=hs j;refine⟨⟨i+1,j⟩,by simp only;omega,AC [(49,.nm 49)] rfl rfl ?_ ?_⟩
    ·simp only[e];first|exact eN|refine eM ?_
     rfl
    ·simp only[e];first|exact eN|refine eM ?_
   ·have j:f.take i=f:=As (iF.1 a);rw[j];refine GJ [49] ?_;exact fI g [.tmp 2,.tmp 3] (by rw[o];exact eR)
end
section
attribute [local go_sem] Q2 O8 SG yH Z7
def Qf (d:List AF) (l:List AP) (f:List ByteArray) (t:Nat) (n:Nat):List (Int×Int) :=
 ((List.range n).filter fun(i:Nat)=>(ET d l (t:Int) (f.getD i ByteArray.empty)).2).map fun(i:Nat)=>((i:Int),GK l (ET d l (t:Int) (f.getD i ByteArray.empty)).1)
def I1 (d:List AF) (l:List AP) (f:List ByteArray) (n:Nat):List (List (Int×Int)):=(List.range n).map fun t=>Qf d l f t f.length
def A3 (d:List AF):List (List (Int×Int))×Int:=if Am d≠0 then ([],Am d) else (I1 d (AJ d) (BC d) (AJ d).length,0)
theorem Uo (d:List AF) (l:List AP) (f:List ByteArray) (t n:Nat):Qf d l f t (n+1)=Qf d l f t n++if (ET d l (t:Int) (f.getD n ByteArray.empty)).2=true then [((n:Int),GK l (ET d l (t:Int) (f.getD n ByteArray.empty)).1)] else []:=by
 unfold Qf;rw[AAb,ABx,AAM]
 congr 1
 rw[AAr,ABN];split<;>rfl
theorem rO (d:List AF) (l:List AP) (f:List ByteArray) (t n:Nat):(Qf d l f t n).length≤n:=by
 unfold Qf;rw[AA3];exact f4 (AAZ _ _) (by simp)
theorem aL (d:List AF) (l:List AP) (f:List ByteArray) (n:Nat):I1 d l f (n+1)=I1 d l f n++[Qf d l f n f.length]:=by simp[I1,AAb]
theorem Uq (d:List AF) (l:List AP) (f:List ByteArray) (n:Nat):(I1 d l f n).length=n:=by simp[I1]
theorem rQ {d:List AF} {l:List AP} (h:∀x∈l,x.2.length≤64) (t:Int) (s:ByteArray):(ET d l t s).1.length≤64:=by
 unfold ET;refine SP t s d ?_;rw[AS];cases a:l[0]? with
 | none=>simp
 | some x=>exact h x (AA9 a)
def SQ:Ad:={ ins:=[Ef],pre:=fun _=>True,out:=fun(d,_)=>[.p z1 (A3 d).1,.p TU (A3 d).2] }
theorem aM:Aj Tryz.prog 63 SQ:=by
 refine fK [0,2,3,4,5,7,8,9,10,11,12,13,17,29,35,49] Tryz.func63 Tryz.ntmps63 (AD Un (AD Nj (AD SH (AD rJ (AD qU AG))))) ?_;rintro w0 O0 ⟨d,u⟩ e - -;simp only[SQ,AL];repeat'(first|exact trivial|refine eS rfl ?_|refine AB ?_|refine rX e ?_ ?_|refine rC ?_ ?_<;>intro a<;>try(cases a;done))
 ·have h1:A3 d=([],Am d):=by unfold A3;rw[BY a]
  exact fI e [.tmp 2,.tmp 3] (by rw[h1];exact eR)
 ·have h:Am d=0:=by simpa using a
  obtain⟨m,-,-⟩:=Bv h;obtain⟨b,-,-⟩:=BJ m;exact⟨(Ao b).2.1,fun x z=>(Js b x z).2⟩
 ·have h:Am d=0:=by simpa using a
  obtain⟨m,B,o⟩:=Bv h;obtain⟨b,j,r⟩:=BJ m;obtain⟨D,A,-⟩:=Ao b;have y:A3 d=(I1 d (AJ d) (BC d) (AJ d).length,0):=by unfold A3;rw[At (by rw[h];simp)]
  have w:=Nk b o;have n:=Md b;have v:(AJ d).length≤256:=by rw[HJ];exact j
  rw[r];generalize AJ d=l at *;generalize BC d=f at *;have q:=fun t s=>rQ (d:=d) n t s;refine AH (ι:={t:Nat//t≤l.length}) (fun t=>⟨[(0,.p Ef d),(5,.p Iu l),(7,.p Bt f),(8,.sr 61 Xl 0 (I1 d l f t.1).length),(9,.p (.int .i64) (t.1:Int))],[(61,.arr 82 Xl (I1 d l f t.1))]⟩) (fun t=>l.length-t.1) ⟨0,IS _⟩ (AC [(61,.nil)] rfl rfl ?_ ?_) (fun t=>?_)
  ·first|exact eN|refine eM ?_
   rfl
  ·first|exact eN|refine eM ?_
   rfl
  ·obtain⟨t,E⟩:=t;have j:=Uq d l f t;have hs:=aL d l f t;simp only;repeat'(first|exact trivial|refine eS rfl ?_|refine AB ?_|refine rX e ?_ ?_|refine rC ?_ ?_<;>intro a<;>try(cases a;done))
   ·refine AH (ι:={i:Nat//i≤f.length}) (fun i=>⟨[(0,.p Ef d),(5,.p Iu l),(7,.p Bt f),(8,.sr 61 Xl 0 (I1 d l f t).length),(9,.p (.int .i64) (t:Int)),(10,.sr 57 T87 0 (Qf d l f t i.1).length),(11,.p (.int .i64) (i.1:Int))],[(61,.arr 82 Xl (I1 d l f t)),(57,.arr 87 T87 (Qf d l f t i.1))]⟩) (fun i=>f.length-i.1) ⟨0,IS _⟩ (AC [(61,.nm 61),(57,.nil)] rfl rfl ?_ ?_) (fun i=>?_)
    ·first|exact eN|refine eM ?_
     rfl
    ·first|exact eN|refine eM ?_
     rfl
    ·obtain⟨i,hi⟩:=i;have C:=rO d l f t i;have c:=Uo d l f t i;simp only;repeat'(first|exact trivial|refine eS rfl ?_|refine AB ?_|refine rX e ?_ ?_|refine rC ?_ ?_<;>intro a<;>try(cases a;done))
     ·exact⟨a,w,by assumption,v,n⟩
     ·refine⟨f4 (q _ _) (by decide),?_⟩;simp only[AO];omega
     ·omega
     ·have g:i<f.length:=OM.1 (by assumption);rw[BY a]at c;refine⟨⟨i+1,g⟩,by simp only;omega,AC [(61,.nm 61),(57,.nm 57)] rfl rfl ?_ ?_⟩
      ·simp only[c];first|exact eN|refine eM ?_
      ·simp only[c];first|exact eN|refine eM ?_
     ·omega
     ·have g:i<f.length:=OM.1 (by assumption);rw[At (by rw[a];simp),AAl]at c;refine⟨⟨i+1,g⟩,by simp only;omega,AC [(61,.nm 61),(57,.nm 57)] rfl rfl ?_ ?_⟩
      ·simp only[c];first|exact eN|refine eM ?_
      ·simp only[c];first|exact eN|refine eM ?_
     ·rw[j];simp only[AO];omega
     ·omega
     ·have k:t<l.length:=OM.1 (by assumption);have g:i=f.length:=by omega
      subst g;refine⟨⟨t+1,k⟩,by simp only;omega,AC [(61,.nm 61)] rfl rfl ?_ ?_⟩
      ·simp only[hs];first|exact eN|refine eM ?_
      ·simp only[hs];first|exact eN|refine eM ?_
   ·have k:t=l.length:=by omega
    subst k;refine GJ [61] ?_;exact fI e [.tmp 2,.tmp 3] (by rw[y];exact eR)
end
section
attribute [local go_sem] cs0
def KB (l:List ByteArray) (n:Nat):List FV:=(List.range n).map fun k=>(l.getD (2*k) ByteArray.empty,l.getD (2*k+1) ByteArray.empty)
theorem SR (l:List ByteArray) (n:Nat):KB l (n+1)=KB l n++[(l.getD (2*n) ByteArray.empty,l.getD (2*n+1) ByteArray.empty)]:=by simp[KB,AAb]
theorem Ur (l:List ByteArray) (n:Nat):(KB l n).length=n:=by simp[KB]
def WT (s:ByteArray):List ByteArray:=if AY s ByteArray.empty=true then [] else [s]
def FQ (n s:ByteArray) (l:List ByteArray):AF:=(n,WT s,KB l (l.length / 2))
def rR:Ad:={ ins:=[T9,T9,Bt],pre:=fun(_,_,l,_)=>List.length l≤1000,out:=fun(n,s,l,_)=>[.p lG (FQ n s l)] }
theorem yI:Aj Tryz.prog 67 rR:=by
 refine fK [0,1,2,6,7,8,12,20] Tryz.func67 Tryz.ntmps67 AG ?_;rintro w0 O0 ⟨n,s,l,u⟩ b-i;have i:l.length≤1000:=i;simp only[rR,AL];repeat'(first|exact trivial|refine eS rfl ?_|refine AB ?_|refine rX b ?_ ?_|refine rC ?_ ?_<;>intro a<;>try(cases a;done))
 ·have f:=a;refine GJ [14] ?_;refine AH (ι:={k:Nat//2*k≤l.length}) (fun k=>⟨[(2,.p Bt l),(6,.bp 6 [] 0),(7,.bp 7 [] 0),(8,.p (.int .i64) ((2*k.1:Nat):Int))],[(6,.box 111 true [.p T9 ByteArray.empty,.raw (.slice none 0 0),.raw (.slice none 0 0)]),(7,.box 111 true [.p T9 n,.p Bt [s],.sr 36 Zu 0 (KB l k.1).length]),(36,.arr 154 Zu (KB l k.1))]⟩) (fun k=>l.length-2*k.1) ⟨0,IS _⟩ (AC [(6,.nm 6),(7,.nm 7),(36,.nil)] rfl rfl ?_ ?_) (fun k=>?_)
  ·first|exact eN|refine eM ?_
   exact⟨rfl,rfl⟩
  ·first|exact eN|refine eM ?_
  ·obtain⟨k,hk⟩:=k;have g:=Ur l k;have d:=SR l k;simp only;repeat'(first|exact trivial|refine eS rfl ?_|refine AB ?_|refine rX b ?_ ?_|refine rC ?_ ?_<;>intro a<;>try(cases a;done))
   ·exact eV
   ·refine⟨by exact eV,⟨by exact eV,by exact eV⟩,⟨by exact eV,by exact eV⟩,?_⟩;rw[g];simp only[AO];exact eV
   ·exact eV
   ·have c:2*k+1<l.length:=by exact eV
    have e:((2*k:Nat):Int)+1=((2*k+1:Nat):Int):=by omega
    refine⟨⟨k+1,by omega⟩,by simp only;omega,AC [(6,.nm 6),(7,.nm 7),(36,.nm 36)] rfl rfl ?_ ?_⟩
    ·simp only[d];first|exact eN|refine eM ?_
     rw[e];rfl
    ·simp only[d];first|exact eN|refine eM ?_
     show ((2*k:Nat):Int)+2=((2*(k+1):Nat):Int);omega
   ·have c:k=l.length / 2:=by exact eV
    refine GJ [36] ?_;have h:FQ n s l=(n,[s],KB l k):=by
     unfold FQ WT;rw[←c,At (by rw[show AY s ByteArray.empty=false from f];simp)]
    exact fI b [.cell 6 111] (by rw[h];exact eR)
 ·have f:=a;refine AH (ι:={k:Nat//2*k≤l.length}) (fun k=>⟨[(2,.p Bt l),(6,.bp 6 [] 0),(7,.bp 7 [] 0),(8,.p (.int .i64) ((2*k.1:Nat):Int))],[(6,.box 111 true [.p T9 ByteArray.empty,.raw (.slice none 0 0),.raw (.slice none 0 0)]),(7,.box 111 true [.p T9 n,.p Bt ([]:List ByteArray),.sr 36 Zu 0 (KB l k.1).length]),(36,.arr 154 Zu (KB l k.1))]⟩) (fun k=>l.length-2*k.1) ⟨0,IS _⟩ (AC [(6,.nm 6),(7,.nm 7),(36,.nil)] rfl rfl ?_ ?_) (fun k=>?_)
  ·first|exact eN|refine eM ?_
   exact⟨rfl,rfl⟩
  ·first|exact eN|refine eM ?_
  ·obtain⟨k,hk⟩:=k;have g:=Ur l k;have d:=SR l k;simp only;repeat'(first|exact trivial|refine eS rfl ?_|refine AB ?_|refine rX b ?_ ?_|refine rC ?_ ?_<;>intro a<;>try(cases a;done))
   ·exact eV
   ·refine⟨by exact eV,⟨by exact eV,by exact eV⟩,⟨by exact eV,by exact eV⟩,?_⟩;rw[g];simp only[AO];exact eV
   ·exact eV
   ·have c:2*k+1<l.length:=by exact eV
    have e:((2*k:Nat):Int)+1=((2*k+1:Nat):Int):=by omega
    refine⟨⟨k+1,by omega⟩,by simp only;omega,AC [(6,.nm 6),(7,.nm 7),(36,.nm 36)] rfl rfl ?_ ?_⟩
    ·simp only[d];first|exact eN|refine eM ?_
     rw[e];rfl
    ·simp only[d];first|exact eN|refine eM ?_
     show ((2*k:Nat):Int)+2=((2*(k+1):Nat):Int);omega
   ·have c:k=l.length / 2:=by exact eV
    refine GJ [36] ?_;have h:FQ n s l=(n,([]:List ByteArray),KB l k):=by
     unfold FQ WT;rw[←c,BY (show AY s ByteArray.empty=true from f)]
    exact fI b [.cell 6 111] (by rw[h];exact eR)
end
section
attribute [local go_sem] rR cs0 cs1 cs2 cs3 cs4 cs5 cs6 cs7 cs8
def I2:List AF:=[
 FQ { data:=#[116,111,112] } { data:=#[] } [],
 FQ { data:=#[108,105,115,116] } { data:=#[116,111,112] } [],
 FQ { data:=#[99,111,110,115] } { data:=#[108,105,115,116] } [{ data:=#[70,73,82,83,84] },{ data:=#[116,111,112] },{ data:=#[82,69,83,84] },{ data:=#[108,105,115,116] }],
 FQ { data:=#[110,117,108,108] } { data:=#[108,105,115,116] } [],
 FQ { data:=#[100,108,105,115,116] } { data:=#[116,111,112] } [{ data:=#[76,73,83,84] },{ data:=#[108,105,115,116] },{ data:=#[76,65,83,84] },{ data:=#[108,105,115,116] }],
 FQ { data:=#[105,110,100,101,120] } { data:=#[116,111,112] } [],
 FQ { data:=#[104,97,110,100,108,101] } { data:=#[105,110,100,101,120] } [],
 FQ { data:=#[101,118,101,110,116] } { data:=#[105,110,100,101,120] } [],
 FQ { data:=#[101,110,116,105,116,121] } { data:=#[105,110,100,101,120] } [],
 FQ { data:=#[114,101,108] } { data:=#[116,111,112] } [{ data:=#[76,65,66,69,76] },{ data:=#[104,97,110,100,108,101] }],
 FQ { data:=#[113,101,113] } { data:=#[116,111,112] } [{ data:=#[72,73,71,72] },{ data:=#[104,97,110,100,108,101] },{ data:=#[76,79,87] },{ data:=#[104,97,110,100,108,101] }],
 FQ { data:=#[115,101,109] } { data:=#[116,111,112] } [{ data:=#[84,79,80] },{ data:=#[104,97,110,100,108,101] },{ data:=#[73,78,68,69,88] },{ data:=#[105,110,100,101,120] },{ data:=#[82,69,76,83] },{ data:=#[100,108,105,115,116] },{ data:=#[67,79,78,83] },{ data:=#[100,108,105,115,116] }],
 FQ { data:=#[115,105,103,110] } { data:=#[116,111,112] } [{ data:=#[83,69,77] },{ data:=#[115,101,109] },{ data:=#[65,82,71,83] },{ data:=#[108,105,115,116] }]]
def Nm:Ad:={ ins:=[],pre:=fun _=>True,out:=fun _=>[.p Ef I2] }
theorem aN:Aj Tryz.prog 37 Nm:=by
 refine fKP [0] [3,6,12,14,16,18,20] [] Tryz.func37 Tryz.ntmps37 (AD yI AG) ?_;rintro w0 O0 u a - -;simp only[Nm,AL];repeat'(first|exact trivial|refine eS rfl ?_|refine AB ?_|refine rX a ?_ ?_|refine rC ?_ ?_<;>intro b<;>try(cases b;done))
 exact fI a [.tmp 0] (by unfold I2;exact eR)
end
end Go.Proofs.YtdapahgnpbehbaaGreat.Fw
