/- Contracts of the program's and the reference's functions, and the plain laws of what they compute: C1 C2 C9 C10 C11 C12 C13 C3 C4 C5 C6 C7 C8 C14 C15 C16 C17 C18 C19 C20 C21 C22 C23 N1 N2 C24 C25 N3 C26 C27 C28 C29 N4 C30 C31 C32 C33 C34. -/
import Derived.Test.YtdapahgnpbehbaaGreatIZJ
set_option linter.unusedVariables false
set_option linter.unusedSimpArgs false
namespace Go.Proofs.YtdapahgnpbehbaaGreat.Fw
open Go
attribute [local irreducible] Ev
attribute [local go_sem] Wk AM List.toList_toArray Bp evG evK TW EX Jk Fg Ex F1 Ng J6 CC Co Kq Bz Ce frz Zk GS DD A5 FQ BU AV.frz AV.frzs AV.drp AV.drps AV.names AV.namess aq GT J5 Jb Qn H5 BP BV I5 EP Hg ER Hi Hh Hj Sd NY GU I6 FT Ds Se O5 v4 I7 H8 Kl E9 Dh H9 Jd D9 Qo CX EA Eh O6 IA O7 LW IB Je Cn Cc FF Di HH DL Ei DM EB FE Bz Cb Ov O2 Lt Fz H7 H6 Jc Lu Nb LX Kp Kn Jh O8 Ko Ji WG Nf Nc AV.trn AV.trns Dr CW Obj.trn JK Yi C0 DN Cz EC CQ Ej Ah lk Gm GJ HF wC Zj TT Zm O4 oJ oK pfs AV.cells CA I3 Nx Jg Na CP Lr Ty.cell1 Hf Eg Dg Fy Kk EO J4 LV Oz Ef Gu Lq Qm Sb Ln J3 WD YK O3 Ls Cm I4 RV.flat Ty.flat Ty.size St.add upd del Ba Value.oneCell' Ki Ty.dflt He Mx Gx M4 List.take_succ_cons List.take_zero List.length_cons Wr Ws M3 X1 KG GY Hz sM Ey Kz K0 K2 K3 OG OH JC Ho Qy Option.map_some Option.map_none Option.bind_some Option.getD_some Option.getD_none Option.isNone_none Option.isNone_some Bool.and_true Bool.true_and Bool.and_false Bool.false_and Bool.not_true Bool.not_false if_true if_false List.length_cons List.length_nil and_true true_and and_self List.all_cons List.all_nil List.append_nil List.nil_append List.cons_append List.getElem?_cons_zero List.getElem?_cons_succ List.getElem?_nil List.map_cons List.map_nil List.set_cons_zero List.set_cons_succ List.isEmpty_nil List.isEmpty_cons decide_true decide_false beq_self_eq_true bne_self_eq_false Nat.zero_add Nat.add_zero Nat.sub_zero Int.toNat_natCast Int.toNat_zero Int.toNat_one List.take_length List.length_append List.length_singleton true_or or_true or_self false_or or_false Ty.agg.injEq Ty.slice.injEq Ty.prod.injEq Ty.int.injEq Option.some.injEq beq_iff_eq K4 evMG evMQ v5 HL Lc Bv JE GI L5 JD HK Hq JF KF L6 L8 L7 Qz KE Mz M0 Hy AW Ai Op.operands Call.operands List.filterMap_cons List.filterMap_nil List.append_eq Bool.cond_false_right Bool.cond_true_left cond_true cond_false implies_true decide_eq_true_eq beq_true beq_false Bool.or_true Bool.or_false Bool.true_or Bool.false_or Option.isSome_some Array.empty_append List.append_toArray K1 Kr Ek HV WF NZ FD Fa FZ IC HG Jf Km TV Zl Ja inB Jj FN F0 ID Ak Wu List.drop_zero DZ HZ WK CE Jp BT AV.fgt AV.fgts Obj.fgt Af Ag AW Cp IP BH F5 List.any_cons List.any_nil jY Yf WL Yg Lo Pf qs List.flatMap_cons List.flatMap_nil List.cons_append tn WM Ha List.take_succ_cons List.drop_succ_cons WN HO Bj aQ KI B8 CS Ab FH Jo Bc Em Dj HI Hn F4 HJ
attribute [local go_sem] ty1 ty2 ty3 ty4 ty5 ty9 yG yH yI yJ yK yL yM yN yO yP yQ yR yS yT yU yV yW yX yY yZ y3 y4 y5 y6 y7 y8 y9 zA zB zC zD zE zF zG zH zI zJ zK zL zM zN zO zP zQ zR zS zT zU zV zW zX zY zZ z0 z1 z2 z3 z4 z5 z6 z7 z8 z9 A00 A01 A02 A03 A04 A05 A06 A07 A08 A09 A0a aY aZ a9 bA bB bC bD bE bF bG bH bI bJ bK bL bM bN bO bP bQ bR bS bT bU bV bW bX bZ b4 b5 b6 b7 b8 b9 cA cB cC cE cF cG cH cI cJ cK cL cM cN cO cQ cR cS cU cV cW cX cZ c6 c7 c8 c9 dA dB dC dD dE dF dG dH dI dJ dK dL dM dN dP dQ dR dS dT dU dV dW dX dY dZ d3 d4 d5 d6 d7 d8 d9 eB eC eD eE eF eG eH eI eJ eK eL eO eQ eU eW eX eY eZ e7 e9 fA fB fC fD fE fF fG
set_option maxRecDepth 100000
set_option maxHeartbeats 4000000
section
def Js (a b c:Int):Bool:=decide (a≤c)&&decide (c≤b)
def lD:Ae:={ ins:=[.int .u8],pre:=fun _=>True,out:=fun(c,_)=>[.p .bool (Js 48 57 c)] }
attribute [local go_sem] lD
def lE:Ae:={ ins:=[.int .u8],pre:=fun _=>True,out:=fun(c,_)=>[.p .bool (Js 65 90 c)] }
attribute [local go_sem] lE
def lF:Ae:={ ins:=[.int .u8],pre:=fun _=>True,out:=fun(c,_)=>[.p .bool (Js 97 122 c)] }
attribute [local go_sem] lF
theorem fO:Ao Tryz.prog 176 lD:=by
 refine fK [0,2] Tryz.func176 Tryz.ntmps176 AG ?_;rintro w0 O0 ⟨c,u⟩ a - -;simp only[lD,AM];repeat'(first|exact trivial|refine eS rfl ?_|refine AB ?_|refine rX a ?_ ?_|refine rC ?_ ?_<;>intro b<;>try(cases b;done))
 exact fI a [.tmp 2] (by unfold Js;exact eR)
theorem A0f:Ao Tryz.prog 183 lE:=by
 refine fK [0,2] Tryz.func183 Tryz.ntmps183 AG ?_;rintro w0 O0 ⟨c,u⟩ a - -;simp only[lE,AM];repeat'(first|exact trivial|refine eS rfl ?_|refine AB ?_|refine rX a ?_ ?_|refine rC ?_ ?_<;>intro b<;>try(cases b;done))
 exact fI a [.tmp 2] (by unfold Js;exact eR)
theorem A0g:Ao Tryz.prog 184 lF:=by
 refine fK [0,2] Tryz.func184 Tryz.ntmps184 AG ?_;rintro w0 O0 ⟨c,u⟩ a - -;simp only[lF,AM];repeat'(first|exact trivial|refine eS rfl ?_|refine AB ?_|refine rX a ?_ ?_|refine rC ?_ ?_<;>intro b<;>try(cases b;done))
 exact fI a [.tmp 2] (by unfold Js;exact eR)
def UR (c:Int) (big:Bool):Bool:=Js 48 57 c||c==45||big&&Js 65 90 c||!big&&Js 97 122 c
def A0h:Ae:={ ins:=[.int .u8,.bool],pre:=fun _=>True,out:=fun(c,b,_)=>[.p .bool (UR c b)] }
attribute [local go_sem] A0h
theorem A33:Ao Tryz.prog 177 A0h:=by
 refine fK [0,1,4] Tryz.func177 Tryz.ntmps177 (AF fO (AF A0f (AF A0g AG))) ?_;rintro w0 O0 ⟨c,b,u⟩ a - -;simp only[A0h,AM];repeat'(first|exact trivial|refine eS rfl ?_|refine AB ?_|refine rX a ?_ ?_|refine rC ?_ ?_<;>intro d<;>try(cases d;done))
 exact fI a [.tmp 4] (by unfold UR;exact eR)
abbrev chr (s:ByteArray) (i:Nat):Int:=((s.data.getD i 0).toNat:Int)
def Q9 (s:ByteArray):Bool:=decide ((s.size:Int)<1)||decide (32<(s.size:Int))||Js 48 57 (chr s 0)||chr s 0==45
def Eo (s:ByteArray) (big:Bool):Bool:=!Q9 s&&(List.range s.size).all fun i=>UR (chr s i) big
def lG:Ae:={ ins:=[T9,.bool],pre:=fun _=>True,out:=fun(s,b,_)=>[.p .bool (Eo s b)] }
attribute [local go_sem] lG
theorem fP:Ao Tryz.prog 165 lG:=by
 refine fK [0,1,4,5,23,27,35] Tryz.func165 Tryz.ntmps165 (AF fO (AF A33 AG)) ?_;rintro w0 O0 ⟨s,b,u⟩ d - -;simp only[lG,AM];repeat'(first|exact trivial|refine eS rfl ?_|refine AB ?_|refine rX d ?_ ?_|refine rC ?_ ?_<;>intro a<;>try(cases a;done))
 ·constructor
  ·intro h;simp only[OR,AAp,On]at h;have:1≤(s.size:Int):=by omega
   exact this
  ·intro h;simp only[OR,AAp,On]at h;have:1≤(s.size:Int):=by omega
   exact this
 ·have h1:Q9 s=true:=by
   unfold Q9 chr;simp only[iS,DO,tO];exact a
  have c:Eo s b=false:=by unfold Eo;rw[h1];rfl
  exact fI d [.tmp 4] (by rw[c];exact eR)
 ·have h1:Q9 s=false:=by
   unfold Q9 chr;simp only[AAp,On,AAs];exact⟨⟨⟨by omega,by omega⟩,a.1.2⟩,a.2⟩
  have g:s.size≤32:=by omega
  refine AJ (ι:={k:Nat//k≤s.size∧((List.range k).all fun i=>UR (chr s i) b)=true}) (fun k=>⟨[(0,.p T9 s),(1,.p .bool b),(5,.p (.int .i64) (k.1:Int))],[]⟩) (fun k=>s.size-k.1) ⟨0,by simp⟩ (AC [] rfl rfl ?_ ?_) (fun k=>?_)
  ·first|exact eN|refine eM ?_
  ·first|exact eN|refine eM ?_
  ·obtain⟨k,hk,f⟩:=k;repeat'(first|exact trivial|refine eS rfl ?_|refine AB ?_|refine rX d ?_ ?_|refine rC ?_ ?_<;>intro a<;>try(cases a;done))
   ·exact a
   ·have e:k<s.size:=by omega
    have c:Eo s b=false:=by
     unfold Eo;rw[AAD];refine .inr (AC2.2 fun h=>?_);have:=GO.1 h k (nO.2 e);rw[show UR (chr s k) b=false from a]at this;cases this
    exact fI d [.tmp 4] (by rw[c];exact eR)
   ·omega
   ·have e:k<s.size:=by omega
    refine⟨⟨k+1,by omega,?_⟩,by simp only;omega,AC [] rfl rfl ?_ ?_⟩
    ·rw[AAe,ABy,f];rw[ABV,AB4,List.all_nil,Bool.and_true];exact a
    ·first|exact eN|refine eM ?_
    ·first|exact eN|refine eM ?_
   ·have e:k=s.size:=by omega
    subst e;have c:Eo s b=true:=by unfold Eo;rw[h1,f];rfl
    exact fI d [.tmp 4] (by rw[c];exact eR)
def A0i:Ae:={ ins:=[T9],pre:=fun _=>True,out:=fun(s,_)=>[.p .bool (Eo s false)] }
def US:Ae:={ ins:=[T9],pre:=fun _=>True,out:=fun(s,_)=>[.p .bool (Eo s true)] }
theorem A34:Ao Tryz.prog 151 A0i:=by
 refine fK [0,2] Tryz.func151 Tryz.ntmps151 (AF fP AG) ?_;rintro w0 O0 ⟨s,u⟩ a - -;simp only[A0i,AM];repeat'(first|exact trivial|refine eS rfl ?_|refine AB ?_|refine rX a ?_ ?_|refine rC ?_ ?_<;>intro b<;>try(cases b;done))
 exact fI a [.tmp 2]
theorem lH:Ao Tryz.prog 150 US:=by
 refine fK [0,2] Tryz.func150 Tryz.ntmps150 (AF fP AG) ?_;rintro w0 O0 ⟨s,u⟩ a - -;simp only[US,AM];repeat'(first|exact trivial|refine eS rfl ?_|refine AB ?_|refine rX a ?_ ?_|refine rC ?_ ?_<;>intro b<;>try(cases b;done))
 exact fI a [.tmp 2]
end
section
theorem M6 {α:Type} (l:List α) (d:α) (p:α→Bool) {k:Nat} (h:k<l.length):(l.take (k+1)).any p=((l.take k).any p||p (l.getD k d)):=by
 rw[Ax l d h,ABU];simp
theorem Gz {α:Type} (l:List α) (d:α) (p:α→Bool) {k:Nat} (h:k<l.length) (hp:p (l.getD k d)=true):l.any p=true :=
 TO.2 ⟨_,AD l d h,hp⟩
def AX (l:List ByteArray) (s:ByteArray):Bool:=l.any fun x=>Aa x s
def Jt:Ae:={ ins:=[B6,T9],pre:=fun _=>True,out:=fun(l,n,_)=>[.p .bool (AX l n)],lend:=true }
attribute [local go_sem] Jt
theorem G0:Ao Tryz.prog 131 Jt:=by
 refine fK [0,1,4,5,9,17] Tryz.func131 Tryz.ntmps131 AG ?_;rintro w0 O0 ⟨l,n,u⟩ b ⟨⟨e,-⟩,-⟩ -;simp only[AO]at e;simp only[Jt,AM];repeat'(first|exact trivial|refine eS rfl ?_|refine AB ?_|refine rX b ?_ ?_|refine rC ?_ ?_<;>intro a<;>try(cases a;done))
 refine AJ (ι:={k:Nat//k≤l.length∧(l.take k).any (fun x=>Aa x n)=false}) (fun k=>⟨[(0,.p B6 l),(1,.p T9 n),(5,.p (.int .i64) (k.1:Int))],[]⟩) (fun k=>l.length-k.1) ⟨0,by simp⟩ (AC [] rfl rfl ?_ ?_) (fun k=>?_)
 ·first|exact eN|refine eM ?_
 ·first|exact eN|refine eM ?_
 ·obtain⟨k,hk,c⟩:=k;repeat'(first|exact trivial|refine eS rfl ?_|refine AB ?_|refine rX b ?_ ?_|refine rC ?_ ?_<;>intro a<;>try(cases a;done))
  ·exact eV
  ·have d:k<l.length:=by exact eV
   have h1:AX l n=true:=Gz l ByteArray.empty _ d a;exact fI b [.tmp 4] (by rw[h1];exact eR)
  ·exact eV
  ·have d:k<l.length:=by exact eV
   refine⟨⟨k+1,by exact eV,?_⟩,by simp only;exact eV,AC [] rfl rfl ?_ ?_⟩
   ·rw[M6 l ByteArray.empty _ d,c];exact a
   ·first|exact eN|refine eM ?_
   ·first|exact eN|refine eM ?_
  ·have hk:l.take k=l:=BY (by exact eV);rw[hk]at c;have h1:AX l n=false:=c;exact fI b [.tmp 4] (by rw[h1];exact eR)
def v6 (l:List ByteArray) (s:ByteArray):Nat:=(l.takeWhile fun x=>HT x s).length
theorem A0j {α:Type} (p:α→Bool) (d:α):∀(l:List α) (k:Nat),k≤(l.takeWhile p).length→((k<l.length∧p (l.getD k d)=true)↔k+1≤(l.takeWhile p).length)
 | [],k,h=>by simp
 | x :: l,k,h=>by
  by_cases a:p x=true
  ·rw[List.takeWhile_cons,At a]at h ⊢;cases k with
   | zero=>simp[a]
   | succ k =>
    have:=A0j p d l k (by simpa using h);simpa using this
  ·rw[List.takeWhile_cons,As a]at h ⊢;have hk:k=0:=by simpa using h
   subst hk;simp[a]
theorem A4i {α:Type} (p:α→Bool) (l:List α):(l.takeWhile p).length≤l.length:=(List.takeWhile_sublist p).length_le
def EW (l:List ByteArray) (s:ByteArray):List ByteArray :=
 if (decide (v6 l s<l.length)&&Aa (l.getD (v6 l s) ByteArray.empty) s)=true then l else l.take (v6 l s)++[s]++l.drop (v6 l s)
def Yo:Ae:={ ins:=[B6,T9],pre:=fun(l,_,_)=>List.length l≤100000,out:=fun(l,n,_)=>[.p B6 (EW l n)] }
attribute [local go_sem] Yo
theorem RA:Ao Tryz.prog 122 Yo:=by
 refine fK [0,1,4,5,6,18,32] Tryz.func122 Tryz.ntmps122 AG ?_;rintro w0 O0 ⟨l,n,u⟩ c-m;have m:l.length≤100000:=m;simp only[Yo,AM];repeat'(first|exact trivial|refine eS rfl ?_|refine AB ?_|refine rX c ?_ ?_|refine rC ?_ ?_<;>intro a<;>try(cases a;done))
 refine AJ (ι:={k:Nat//k≤v6 l n}) (fun k=>⟨[(0,.p B6 l),(1,.p T9 n),(5,.raw (.slice none 0 0)),(6,.p (.int .i64) (k.1:Int))],[]⟩) (fun k=>l.length-k.1) ⟨0,by simp⟩ (AC [] rfl rfl ?_ ?_) (fun k=>?_)
 ·first|exact eN|refine eM ?_
 ·first|exact eN|refine eM ?_
 ·obtain⟨k,hk⟩:=k;have d:=A4i (fun x=>HT x n) l;have i:=A0j (fun x=>HT x n) ByteArray.empty l k hk;simp only;repeat'(first|exact trivial|refine eS rfl ?_|refine AB ?_|refine rX c ?_ ?_|refine rC ?_ ?_<;>intro a<;>try(cases a;done))
  ·exact fun h=>h
  ·have h1:k<l.length∧HT (l.getD k ByteArray.empty) n=true:=⟨by exact eV,a.2⟩;exact eV
  ·have h1:k<l.length∧HT (l.getD k ByteArray.empty) n=true:=⟨by exact eV,a.2⟩;refine⟨⟨k+1,i.1 h1⟩,by simp only;omega,AC [] rfl rfl ?_ ?_⟩
   ·first|exact eN|refine eM ?_
   ·first|exact eN|refine eM ?_
  ·exact fun h=>h
  ·rename_i f;have g:k=v6 l n:=by
    refine ABP hk (Nat.le_of_not_lt fun h=>?_);have:=i.2 h;rw[f (If.2 this.1)]at this;cases this.2
   have e:EW l n=l:=by
    unfold EW;rw[←g,At];rw[AT,DO];exact⟨If.1 a.1,a.2⟩
   exact fI c [.tmp 4] (by rw[e];exact eR)
  ·have j:=AAt k l;have b:k≤l.length:=aT hk d;simp only[AO];exact⟨gO.2 b,by dsimp only[Ty.den]at *;omega⟩
  ·have j:=AAt k l;have b:k≤l.length:=aT hk d;simp only[AO];dsimp only[Ty.den]at *;omega
  ·have j:=AAt k l;have b:k≤l.length:=aT hk d;have q:(l.drop k).length≤l.length:=by rw[AA7];omega
   simp only[AO];exact⟨gO.2 b,by dsimp only[Ty.den]at *;omega⟩
  ·rename_i f;have g:k=v6 l n:=by
    refine ABP hk (Nat.le_of_not_lt fun h=>?_);have:=i.2 h;rw[f (If.2 this.1)]at this;cases this.2
   have e:EW l n=l.take k++[n]++l.drop k:=by
    unfold EW;rw[←g,As];rw[AT,DO];intro h;rw[a (If.2 h.1)]at h;cases h.2
   have b:k≤l.length:=aT hk d;have o:(l.take k).length+1+(l.drop k).length=(l.take k++[n]++l.drop k).length:=by simp only[IN,To]
   rw[o,←e];refine Gy [38] ?_;exact fI c [.tmp 4]
end
section
def GK (b:List Int) (i:Int):Int:=if i<b.length then b.getD i.toNat 0 else 0
def fQ:Ae:={ ins:=[EV,T3],pre:=fun(_,i,_)=>(0:Int)≤i,out:=fun(b,i,_)=>[.p Pk (GK b i)],lend:=true }
attribute [local go_sem] fQ
theorem pM:Ao Tryz.prog 142 fQ:=by
 refine fK [0,1,4,8] Tryz.func142 Tryz.ntmps142 AG ?_;rintro w0 O0 ⟨b,i,u⟩ c-hi;simp only[fQ,AM];repeat'(first|exact trivial|refine eS rfl ?_|refine AB ?_|refine rX c ?_ ?_|refine rC ?_ ?_<;>intro a<;>try(cases a;done))
 ·exact⟨hi,a⟩
 ·have h1:GK b i=b.getD i.toNat 0:=by unfold GK;rw[At a]
  exact fI c [.tmp 4] (by rw[h1];exact eR)
 ·have h1:GK b i=0:=by unfold GK;rw[As (AAS.2 a)]
  exact fI c [.tmp 4] (by rw[h1];exact eR)
def Ca (b:List Int):Nat→Nat
 | 0=>0
 | n+1=>if b.getD n 0=0 then Ca b n else n+1
def BK (b:List Int):List Int:=b.take (Ca b b.length)
theorem UT (b:List Int):∀n,Ca b n≤n
 | 0=>No _
 | n+1=>by
  unfold Ca;split
  ·exact Nat.le_succ_of_le (UT b n)
  ·exact No _
def LB:Ae:={ ins:=[EV],pre:=fun(b,_)=>List.length b≤100000,out:=fun(b,_)=>[.p EV (BK b)] }
attribute [local go_sem] LB
theorem M7:Ao Tryz.prog 124 LB:=by
 refine fK [0,2,3,15] Tryz.func124 Tryz.ntmps124 AG ?_;rintro w0 O0 ⟨b,u⟩ d-f;have f:b.length≤100000:=f;simp only[LB,AM];repeat'(first|exact trivial|refine eS rfl ?_|refine AB ?_|refine rX d ?_ ?_|refine rC ?_ ?_<;>intro c<;>try(cases c;done))
 refine AJ (ι:={n:Nat//n≤b.length∧Ca b n=Ca b b.length}) (fun n=>⟨[(0,.p EV b),(3,.p (.int .i64) (n.1:Int))],[]⟩) (fun n=>n.1) ⟨b.length,No _,rfl⟩ (AC [] rfl rfl ?_ ?_) (fun n=>?_)
 ·first|exact eN|refine eM ?_
 ·first|exact eN|refine eM ?_
 ·obtain⟨n,hn,g⟩:=n;simp only;repeat'(first|exact trivial|refine eS rfl ?_|refine AB ?_|refine rX d ?_ ?_|refine rC ?_ ?_<;>intro c<;>try(cases c;done))
  ·constructor
   ·exact eV
   ·intro h;refine⟨?_,?_⟩<;>exact eV
  ·exact eV
  ·obtain⟨h1,a⟩:=c;obtain⟨m,rfl⟩:∃m,n=m+1:=⟨n-1,by omega⟩;have e:(((m+1:Nat):Int)-1)=(m:Int):=by omega
   rw[e]at a;have a:b.getD m 0=0:=a;have j:Ca b m=Ca b b.length:=by
    rw[←g];show _=if b.getD m 0=0 then Ca b m else m+1
    rw[At a]
   refine⟨⟨m,by omega,j⟩,by simp,AC [] rfl rfl ?_ ?_⟩
   ·first|exact eN|refine eM ?_
   ·simp only[e];first|exact eN|refine eM ?_
  ·have k:=AAt n b;simp only[AO];exact⟨gO.2 hn,by dsimp only[Ty.den]at *;omega⟩
  ·have i:Ca b n=n:=by
    cases n with
    | zero=>rfl
    | succ m =>
     have e:(((m+1:Nat):Int)-1)=(m:Int):=by omega
     rw[e]at c;have a:=c (by omega);have a:¬b.getD m 0=0:=a;show (if b.getD m 0=0 then Ca b m else m+1)=m+1;rw[As a]
   have h1:BK b=b.take n:=by unfold BK;rw[←g,i]
   rw[←h1];refine Gy [18] ?_;exact fI d [.tmp 2]
end
section
attribute [local go_sem] fQ LB
def A0k (w:Int) (r:Int):Bool:=B7 .and .u64 (WE .u64 w r) 1==1
def RB (b:List Int) (i:Int):Bool:=if (decide (i<0)||decide ((b.length:Int)≤i.tdiv 64))=true then false else A0k (b.getD (i.tdiv 64).toNat 0) (i.tmod 64)
def A0l:Ae:={ ins:=[EV,T3],pre:=fun _=>True,out:=fun(b,i,_)=>[.p .bool (RB b i)],lend:=true }
theorem A50 {w:Int} (h0:0≤w) (r:Int):0≤WE .u64 w r∧WE .u64 w r≤w:=by
 unfold WE;have hp:(0:Int)<2 ^ (min r.toNat IntKind.u64.bits):=Int.pow_pos (by decide);rw[ABK _ (Int.le_of_lt hp)];exact⟨Int.ediv_nonneg h0 (Int.le_of_lt hp),Int.ediv_le_self _ h0⟩
theorem A0m:Ao Tryz.prog 135 A0l:=by
 refine fK [0,1,4,13] Tryz.func135 Tryz.ntmps135 AG ?_;rintro w0 O0 ⟨b,i,u⟩ d ⟨⟨m,k⟩,e,-⟩ -;have e:LU .i64 i:=e;rw[JC]at e;have j:0≤i→Int.tdiv i 64=i / 64∧Int.tmod i 64=i % 64:=fun h=>⟨AAu h,ABl h⟩;simp only[A0l,AM];repeat'(first|exact trivial|refine eS rfl ?_|refine AB ?_|refine rX d ?_ ?_|refine rC ?_ ?_<;>intro c<;>try(cases c;done))
 ·intro h;have h0:0≤i:=by simpa using h
  obtain⟨a,g⟩:=j h0;rw[a];refine⟨by decide,?_,?_⟩<;>exact eV
 ·have h1:RB b i=false:=by
   unfold RB;rw[At];rw[iS,DO,DO];exact c
  exact fI d [.tmp 4] (by rw[h1];exact eR)
 ·obtain⟨h0,l⟩:=c;obtain⟨a,g⟩:=j h0;rw[a]at l;have f:LU .u64 (b.getD (i / 64).toNat 0):=k _ (AD b 0 (by exact eV));rw[Ho]at f;have hs:=A50 f.1 (i % 64);rw[a,g];refine⟨⟨by decide,by exact eV,by exact eV⟩,⟨by exact eV,by exact eV⟩,⟨by decide,by exact eV,by exact eV⟩,⟨by exact eV,by exact eV⟩,by exact eV,hs.1,AB8 hs.2 f.2⟩
 ·have h1:RB b i=A0k (b.getD (i.tdiv 64).toNat 0) (i.tmod 64):=by
   unfold RB;rw[As];rw[iS,DO,DO];rintro (h|h)<;>omega
  exact fI d [.tmp 4] (by rw[h1];unfold A0k;exact eR)
end
section
attribute [local go_sem] fQ LB
def Gb (op:BinOp) (a b:List Int) (n:Nat):List Int:=(List.range n).map fun i=>B7 op .u64 (a.getD i 0) (GK b (i:Int))
theorem Ep (op:BinOp) (a b:List Int) (n:Nat):(Gb op a b n).length=n:=by simp[Gb]
theorem XI (op:BinOp) (a b:List Int) (n:Nat):Gb op a b (n+1)=Gb op a b n++[B7 op .u64 (a.getD n 0) (GK b (n:Int))]:=by simp[Gb,AAe]
def Ed (a b:List Int):List Int:=BK (Gb .and a b a.length)
def A0n:Ae:={ ins:=[EV,EV],pre:=fun(a,_,_)=>List.length a≤100000,out:=fun(a,b,_)=>[.p EV (Ed a b)] }
theorem A0o:Ao Tryz.prog 112 A0n:=by
 refine fK [0,1,4,5,6,10] Tryz.func112 Tryz.ntmps112 (AF pM (AF M7 AG)) ?_;rintro w0 O0 ⟨a,b,u⟩ d-ha;have ha:a.length≤100000:=ha;simp only[A0n,AM];repeat'(first|exact trivial|refine eS rfl ?_|refine AB ?_|refine rX d ?_ ?_|refine rC ?_ ?_<;>intro c<;>try(cases c;done))
 refine AJ (ι:={n:Nat//n≤a.length}) (fun n=>⟨[(0,.p EV a),(1,.p EV b),(5,.sr 23 Pk 0 n.1),(6,.p (.int .i64) (n.1:Int))],[(23,.arr 155 Pk (Gb .and a b n.1))]⟩) (fun n=>a.length-n.1) ⟨0,Is _⟩ (AC [(23,.nil)] rfl rfl ?_ ?_) (fun n=>?_)
 ·first|exact eN|refine eM ?_
  rfl
 ·first|exact eN|refine eM ?_
 ·obtain⟨n,hn⟩:=n;have g:=Ep .and a b n;have hs:=XI .and a b n;simp only;repeat'(first|exact trivial|refine eS rfl ?_|refine AB ?_|refine rX d ?_ ?_|refine rC ?_ ?_<;>intro c<;>try(cases c;done))
  ·refine⟨c,?_⟩;simp only[AO];dsimp only[Ty.den]at *;omega
  ·exact eV
  ·have e:n<a.length:=by exact eV
   refine⟨⟨n+1,by omega⟩,by simp only;omega,AC [(23,.nm 23)] rfl rfl ?_ ?_⟩
   ·simp only[hs];first|exact eN|refine eM ?_
    rw[BY (by rw[g];exact No _)]
   ·first|exact eN|refine eM ?_
  ·have e:n=a.length:=by exact eV
   subst e;refine Gy [23] ?_;have f:(Gb .and a b a.length).take a.length=Gb .and a b a.length:=BY (by rw[Ep];exact No _);repeat'(first|exact trivial|refine eS rfl ?_|refine AB ?_|refine rX d ?_ ?_|refine rC ?_ ?_<;>intro c<;>try(cases c;done))
   ·rw[f,Ep];exact ha
   ·rw[f];exact fI d [.tmp 4] (by unfold Ed;exact eR)
def RC (a b:List Int):List Int:=BK (Gb .andNot a b a.length)
def lI:Ae:={ ins:=[EV,EV],pre:=fun(a,_,_)=>List.length a≤100000,out:=fun(a,b,_)=>[.p EV (RC a b)] }
attribute [local go_sem] lI
theorem A0p:Ao Tryz.prog 109 lI:=by
 refine fK [0,1,4,5,6,10] Tryz.func109 Tryz.ntmps109 (AF pM (AF M7 AG)) ?_;rintro w0 O0 ⟨a,b,u⟩ d-ha;have ha:a.length≤100000:=ha;simp only[lI,AM];repeat'(first|exact trivial|refine eS rfl ?_|refine AB ?_|refine rX d ?_ ?_|refine rC ?_ ?_<;>intro c<;>try(cases c;done))
 refine AJ (ι:={n:Nat//n≤a.length}) (fun n=>⟨[(0,.p EV a),(1,.p EV b),(5,.sr 23 Pk 0 n.1),(6,.p (.int .i64) (n.1:Int))],[(23,.arr 155 Pk (Gb .andNot a b n.1))]⟩) (fun n=>a.length-n.1) ⟨0,Is _⟩ (AC [(23,.nil)] rfl rfl ?_ ?_) (fun n=>?_)
 ·first|exact eN|refine eM ?_
  rfl
 ·first|exact eN|refine eM ?_
 ·obtain⟨n,hn⟩:=n;have g:=Ep .andNot a b n;have hs:=XI .andNot a b n;simp only;repeat'(first|exact trivial|refine eS rfl ?_|refine AB ?_|refine rX d ?_ ?_|refine rC ?_ ?_<;>intro c<;>try(cases c;done))
  ·refine⟨c,?_⟩;simp only[AO];dsimp only[Ty.den]at *;omega
  ·exact eV
  ·have e:n<a.length:=by exact eV
   refine⟨⟨n+1,by omega⟩,by simp only;omega,AC [(23,.nm 23)] rfl rfl ?_ ?_⟩
   ·simp only[hs];first|exact eN|refine eM ?_
    rw[BY (by rw[g];exact No _)]
   ·first|exact eN|refine eM ?_
  ·have e:n=a.length:=by exact eV
   subst e;refine Gy [23] ?_;have f:(Gb .andNot a b a.length).take a.length=Gb .andNot a b a.length:=BY (by rw[Ep];exact No _);repeat'(first|exact trivial|refine eS rfl ?_|refine AB ?_|refine rX d ?_ ?_|refine rC ?_ ?_<;>intro c<;>try(cases c;done))
   ·rw[f,Ep];exact ha
   ·rw[f];exact fI d [.tmp 4] (by unfold RC;exact eR)
def FP (a b:List Int):Bool:=((RC a b).length:Int)==0
def Pl:Ae:={ ins:=[EV,EV],pre:=fun(a,_,_)=>List.length a≤100000,out:=fun(a,b,_)=>[.p .bool (FP a b)],lend:=true }
attribute [local go_sem] Pl
theorem XJ:Ao Tryz.prog 71 Pl:=by
 refine fK [0,1,4] Tryz.func71 Tryz.ntmps71 (AF A0p AG) ?_;rintro w0 O0 ⟨a,b,u⟩ c-ha;have ha:a.length≤100000:=ha;simp only[Pl,AM];repeat'(first|exact trivial|refine eS rfl ?_|refine AB ?_|refine rX c ?_ ?_|refine rC ?_ ?_<;>intro d<;>try(cases d;done))
 ·exact ha
 ·exact fI c [.tmp 4] (by unfold FP;exact eR)
def DT (a b:List Int):Bool:=FP a b&&FP b a
def Yp:Ae:={ ins:=[EV,EV],pre:=fun(a,b,_)=>List.length a≤100000∧List.length b≤100000,out:=fun(a,b,_)=>[.p .bool (DT a b)],lend:=true }
theorem tG:Ao Tryz.prog 134 Yp:=by
 refine fK [0,1,4] Tryz.func134 Tryz.ntmps134 (AF XJ AG) ?_;rintro w0 O0 ⟨a,b,u⟩ c-⟨ha,e⟩;simp only[Yp,AM];repeat'(first|exact trivial|refine eS rfl ?_|refine AB ?_|refine rX c ?_ ?_|refine rC ?_ ?_<;>intro d<;>try(cases d;done))
 ·exact⟨ha,fun _=>e⟩
 ·exact fI c [.tmp 4] (by unfold DT;exact eR)
end
section
attribute [local go_sem] A0l
def Hb (a b:List Int):Bool:=decide (a=b)
def UU:Ae:={ ins:=[EV,EV],pre:=fun _=>True,out:=fun(a,b,_)=>[.p .bool (Hb a b)],lend:=true }
theorem pN:Ao Tryz.prog 125 UU:=by
 refine fK [0,1,4,5,10,14,25] Tryz.func125 Tryz.ntmps125 AG ?_;rintro w0 O0 ⟨a,b,u⟩ d ⟨⟨ha,-⟩,-⟩ -;simp only[AO]at ha;simp only[UU,AM];repeat'(first|exact trivial|refine eS rfl ?_|refine AB ?_|refine rX d ?_ ?_|refine rC ?_ ?_<;>intro c<;>try(cases c;done))
 ·have h1:Hb a b=false:=by
   unfold Hb;rw[On];rintro rfl;exact c rfl
  exact fI d [.tmp 4] (by rw[h1];exact eR)
 ·have f:a.length=b.length:=by
   have:(a.length:Int)=(b.length:Int):=by simpa using c
   exact Int.ofNat_inj.1 this
  refine AJ (ι:={k:Nat//k≤a.length∧a.take k=b.take k}) (fun k=>⟨[(0,.p EV a),(1,.p EV b),(5,.p (.int .i64) (k.1:Int))],[]⟩) (fun k=>a.length-k.1) ⟨0,Is _,rfl⟩ (AC [] rfl rfl ?_ ?_) (fun k=>?_)
  ·first|exact eN|refine eM ?_
  ·first|exact eN|refine eM ?_
  ·obtain⟨k,hk,hf⟩:=k;simp only;repeat'(first|exact trivial|refine eS rfl ?_|refine AB ?_|refine rX d ?_ ?_|refine rC ?_ ?_<;>intro c<;>try(cases c;done))
   ·exact⟨c,by rw[←f];exact c⟩
   ·have e:k<a.length:=by exact eV
    have h1:Hb a b=false:=by
     unfold Hb;rw[On];rintro rfl;exact c rfl
    exact fI d [.tmp 4] (by rw[h1];exact eR)
   ·exact eV
   ·have e:k<a.length:=by exact eV
    have g:a.getD k 0=b.getD k 0:=by simpa using c
    refine⟨⟨k+1,by omega,?_⟩,by simp only;omega,AC [] rfl rfl ?_ ?_⟩
    ·rw[Ax a 0 e,Ax b 0 (by omega),hf];rw[show a.getD k 0=b.getD k 0 from g]
    ·first|exact eN|refine eM ?_
    ·first|exact eN|refine eM ?_
   ·have e:k=a.length:=by exact eV
    subst e;rw[f9,f,f9]at hf;have h1:Hb a b=true:=by unfold Hb;rw[hf];simp
    exact fI d [.tmp 4] (by rw[h1];exact eR)
end
section
attribute [local go_sem] A0l
def Nn (b:List Int) (n:Nat):List Int:=((List.range n).filter fun(i:Nat)=>RB b (i:Int)).map fun(i:Nat)=>(i:Int)
def IW (b:List Int):List Int:=Nn b (64*b.length)
theorem lJ (b:List Int) (n:Nat):Nn b (n+1)=Nn b n++if RB b (n:Int)=true then [(n:Int)] else []:=by
 unfold Nn;rw[AAe,ABE,AAA]
 congr 1
 rw[AAr,ABT];split<;>rfl
theorem tH (b:List Int) (n:Nat):(Nn b n).length≤n:=by
 unfold Nn;rw[f6];exact aT (AAC _ _) (by simp)
def A0q:Ae:={ ins:=[EV],pre:=fun(b,_)=>List.length b≤100000,out:=fun(b,_)=>[.p Kh (IW b)] }
attribute [local go_sem] A0q
theorem A35:Ao Tryz.prog 156 A0q:=by
 refine fK [0,2,3,4,9,14] Tryz.func156 Tryz.ntmps156 (AF A0m AG) ?_;rintro w0 O0 ⟨b,u⟩ c-e;have e:b.length≤100000:=e;simp only[A0q,AM];repeat'(first|exact trivial|refine eS rfl ?_|refine AB ?_|refine rX c ?_ ?_|refine rC ?_ ?_<;>intro a<;>try(cases a;done))
 refine AJ (ι:={n:Nat//n≤64*b.length}) (fun n=>⟨[(0,.p EV b),(3,.sr 18 T3 0 (Nn b n.1).length),(4,.p (.int .i64) (n.1:Int))],[(18,.arr 3 T3 (Nn b n.1))]⟩) (fun n=>64*b.length-n.1) ⟨0,Is _⟩ (AC [(18,.nil)] rfl rfl ?_ ?_) (fun n=>?_)
 ·first|exact eN|refine eM ?_
  rfl
 ·first|exact eN|refine eM ?_
  rfl
 ·obtain⟨n,hn⟩:=n;have f:=tH b n;have hs:=lJ b n;simp only;repeat'(first|exact trivial|refine eS rfl ?_|refine AB ?_|refine rX c ?_ ?_|refine rC ?_ ?_<;>intro a<;>try(cases a;done))
  ·exact eV
  ·rw[a,At rfl]at hs;simp only[AO];dsimp only[Ty.den]at *;omega
  ·exact eV
  ·have d:n<64*b.length:=by exact eV
   rw[a,At rfl]at hs;refine⟨⟨n+1,by omega⟩,by simp only;omega,AC [(18,.nm 18)] rfl rfl ?_ ?_⟩
   ·simp only[hs];first|exact eN|refine eM ?_
   ·simp only[hs];first|exact eN|refine eM ?_
  ·exact eV
  ·have d:n<64*b.length:=by exact eV
   rw[a,As (by simp),AAa]at hs;refine⟨⟨n+1,by omega⟩,by simp only;omega,AC [(18,.nm 18)] rfl rfl ?_ ?_⟩
   ·simp only[hs];first|exact eN|refine eM ?_
   ·simp only[hs];first|exact eN|refine eM ?_
  ·have d:n=64*b.length:=by exact eV
   subst d;refine Gy [18] ?_;exact fI c [.tmp 2] (by unfold IW;exact eR)
def lK:Ae:={ ins:=[EV],pre:=fun(b,_)=>List.length b≤100000,out:=fun(b,_)=>[.p T3 ((IW b).length:Int)],lend:=true }
theorem A0r:Ao Tryz.prog 137 lK:=by
 refine fK [0,2] Tryz.func137 Tryz.ntmps137 (AF A35 AG) ?_;rintro w0 O0 ⟨b,u⟩ a-d;simp only[lK,AM];repeat'(first|exact trivial|refine eS rfl ?_|refine AB ?_|refine rX a ?_ ?_|refine rC ?_ ?_<;>intro c<;>try(cases c;done))
 ·exact d
 ·exact fI a [.tmp 2]
end
section
attribute [local go_sem] Jt A0i
abbrev AH:=ByteArray×List ByteArray×List (ByteArray×ByteArray)
abbrev d0:AH:=(ByteArray.empty,[],[])
def Cq (s:ByteArray):Nat→List AH→Int
 | _,[]=>-1
 | k,x :: l=>if Aa x.1 s=true then (k:Int) else Cq s (k+1) l
def Ap (l:List AH) (s:ByteArray):Int:=Cq s 0 l
theorem SE (s:ByteArray) (l:List AH) {k:Nat} (h:k<l.length):Cq s k (l.drop k)=if Aa (l.getD k d0).1 s=true then (k:Int) else Cq s (k+1) (l.drop (k+1)):=by
 rw[aS h];have e:l.getD k d0=l[k]:=by simp[AS,h]
 rw[e];rfl
def OO:Ae:={ ins:=[FC,T9],pre:=fun _=>True,out:=fun(l,s,_)=>[.p T3 (Ap l s)] }
attribute [local go_sem] OO
theorem ME:Ao Tryz.prog 152 OO:=by
 refine fK [0,1,4,5,9,18] Tryz.func152 Tryz.ntmps152 AG ?_;rintro w0 O0 ⟨l,s,u⟩ c ⟨⟨d,-⟩,-⟩ -;simp only[AO]at d;simp only[OO,AM];repeat'(first|exact trivial|refine eS rfl ?_|refine AB ?_|refine rX c ?_ ?_|refine rC ?_ ?_<;>intro a<;>try(cases a;done))
 refine AJ (ι:={k:Nat//k≤l.length∧Cq s k (l.drop k)=Ap l s}) (fun k=>⟨[(0,.p FC l),(1,.p T9 s),(5,.p (.int .i64) (k.1:Int))],[]⟩) (fun k=>l.length-k.1) ⟨0,Is _,rfl⟩ (AC [] rfl rfl ?_ ?_) (fun k=>?_)
 ·first|exact eN|refine eM ?_
 ·first|exact eN|refine eM ?_
 ·obtain⟨k,hk,hf⟩:=k;simp only;repeat'(first|exact trivial|refine eS rfl ?_|refine AB ?_|refine rX c ?_ ?_|refine rC ?_ ?_<;>intro a<;>try(cases a;done))
  ·exact a
  ·have b:k<l.length:=by exact eV
   rw[SE s l b,At a]at hf;exact fI c [.tmp 4] (by rw[←hf];exact eR)
  ·exact eV
  ·have b:k<l.length:=by exact eV
   rw[SE s l b,As (by rw[a];simp)]at hf;refine⟨⟨k+1,by omega,hf⟩,by simp only;omega,AC [] rfl rfl ?_ ?_⟩
   ·first|exact eN|refine eM ?_
   ·first|exact eN|refine eM ?_
  ·have b:l.drop k=[]:=IF (by exact eV);rw[b]at hf;exact fI c [.tmp 4] (by rw[←hf];first|exact eR|refine Ym ?_;rfl)
def MF:List AH→Int
 | []=>0
 | x :: l=>if 256<x.2.1.length∨256<x.2.2.length then 7 else MF l
def FA (l:List AH):Int:=if 256<l.length then 7 else MF l
theorem SF (l:List AH) {k:Nat} (h:k<l.length):MF (l.drop k)=if 256<(l.getD k d0).2.1.length∨256<(l.getD k d0).2.2.length then 7 else MF (l.drop (k+1)):=by
 rw[aS h];have e:l.getD k d0=l[k]:=by simp[AS,h]
 rw[e];rfl
def Yq:Ae:={ ins:=[FC],pre:=fun _=>True,out:=fun(l,_)=>[.p WA (FA l)] }
attribute [local go_sem] Yq
theorem A0s:Ao Tryz.prog 126 Yq:=by
 refine fK [0,2,3,6,10,28] Tryz.func126 Tryz.ntmps126 AG ?_;rintro w0 O0 ⟨l,u⟩ b ⟨⟨d,-⟩,-⟩ -;simp only[AO]at d;simp only[Yq,AM];repeat'(first|exact trivial|refine eS rfl ?_|refine AB ?_|refine rX b ?_ ?_|refine rC ?_ ?_<;>intro a<;>try(cases a;done))
 ·have h1:FA l=7:=by unfold FA;rw[At (by exact eV)]
  exact fI b [.tmp 2] (by rw[h1];exact eR)
 ·have h1:FA l=MF l:=by unfold FA;rw[As (by exact eV)]
  refine AJ (ι:={k:Nat//k≤l.length∧MF (l.drop k)=FA l}) (fun k=>⟨[(0,.p FC l),(3,.p (.int .i64) (k.1:Int))],[]⟩) (fun k=>l.length-k.1) ⟨0,Is _,h1.symm⟩ (AC [] rfl rfl ?_ ?_) (fun k=>?_)
  ·first|exact eN|refine eM ?_
  ·first|exact eN|refine eM ?_
  ·obtain⟨k,hk,hf⟩:=k;simp only;repeat'(first|exact trivial|refine eS rfl ?_|refine AB ?_|refine rX b ?_ ?_|refine rC ?_ ?_<;>intro a<;>try(cases a;done))
   ·exact⟨a,fun _=>a⟩
   ·have c:k<l.length:=by exact eV
    rw[SF l c,At (by
     rcases a with h|h
     ·exact .inl (If.1 h)
     ·exact .inr (If.1 h))]at hf
    exact fI b [.tmp 2] (by rw[←hf];exact eR)
   ·exact eV
   ·have c:k<l.length:=by exact eV
    rw[SF l c,As (by
     rintro (h|h)
     ·have:=gO.1 a.1;exact absurd h (Nat.not_lt.2 this)
     ·have:=gO.1 a.2;exact absurd h (Nat.not_lt.2 this))]at hf
    refine⟨⟨k+1,by omega,hf⟩,by simp only;omega,AC [] rfl rfl ?_ ?_⟩
    ·first|exact eN|refine eM ?_
    ·first|exact eN|refine eM ?_
   ·have c:l.drop k=[]:=IF (by exact eV);rw[c]at hf;exact fI b [.tmp 2] (by rw[←hf];first|exact eR|refine Ym ?_;rfl)
theorem Gc {α:Type} (l:List α) (d:α) (p:α→Bool) {k:Nat} (h:k<l.length):(l.take (k+1)).all p=((l.take k).all p&&p (l.getD k d)):=by
 rw[Ax l d h,ABy];simp
def IX (x:AH) (done:List ByteArray):Bool:=x.2.1.all fun s=>AX done s
def Yr:Ae:={ ins:=[tC,B6],pre:=fun _=>True,out:=fun(x,l,_)=>[.p .bool (IX x l)],lend:=true }
attribute [local go_sem] Yr
theorem A0t:Ao Tryz.prog 153 Yr:=by
 refine fK [0,1,2,4,5,10,20] Tryz.func153 Tryz.ntmps153 (AF G0 AG) ?_;rintro w0 O0 ⟨⟨nm,sup,d⟩,l,u⟩ c ⟨⟨-,⟨e,-⟩,-⟩,-⟩ -;simp only[AO]at e;simp only[Yr,AM];repeat'(first|exact trivial|refine eS rfl ?_|refine AB ?_|refine rX c ?_ ?_|refine rC ?_ ?_<;>intro a<;>try(cases a;done))
 refine AJ (ι:={k:Nat//k≤sup.length∧(sup.take k).all (fun s=>AX l s)=true}) (fun k=>⟨[(1,.p B6 l),(2,.bp 2 [] 0),(5,.p (.int .i64) (k.1:Int))],[(2,.box 111 true [.p T9 nm,.p B6 sup,.p aX d])]⟩) (fun k=>sup.length-k.1) ⟨0,by simp⟩ (AC [(2,.nm 2)] rfl rfl ?_ ?_) (fun k=>?_)
 ·first|exact eN|refine eM ?_
 ·first|exact eN|refine eM ?_
 ·obtain⟨k,hk,hf⟩:=k;simp only;repeat'(first|exact trivial|refine eS rfl ?_|refine AB ?_|refine rX c ?_ ?_|refine rC ?_ ?_<;>intro a<;>try(cases a;done))
  ·exact a
  ·have b:k<sup.length:=by exact eV
   have h1:IX (nm,sup,d) l=false:=by
    unfold IX;refine AC2.2 fun h=>?_;have:=GO.1 h _ (AD sup ByteArray.empty b);rw[a]at this;cases this
   exact fI c [.tmp 4] (by rw[h1];exact eR)
  ·have:=e;exact eV
  ·have b:k<sup.length:=by exact eV
   refine⟨⟨k+1,by omega,?_⟩,by simp only;omega,AC [(2,.nm 2)] rfl rfl ?_ ?_⟩
   ·rw[Gc sup ByteArray.empty _ b,hf];exact a
   ·first|exact eN|refine eM ?_
   ·first|exact eN|refine eM ?_
  ·have b:sup.take k=sup:=BY (by exact eV);rw[b]at hf;have h1:IX (nm,sup,d) l=true:=hf;exact fI c [.tmp 4] (by rw[h1];exact eR)
def OP (d:List AH):Nat→List AH→Int
 | _,[]=>0
 | k,x :: l=>if Eo x.1 false=false then 1 else if Ap d x.1<(k:Int) then 4 else OP d (k+1) l
def Cf (d:List AH):Int:=OP d 0 d
theorem MG (d l:List AH) {k:Nat} (h:k<l.length):OP d k (l.drop k)=if Eo (l.getD k d0).1 false=false then 1 else if Ap d (l.getD k d0).1<(k:Int) then 4 else OP d (k+1) (l.drop (k+1)):=by
 rw[aS h];have e:l.getD k d0=l[k]:=by simp[AS,h]
 rw[e];rfl
def Ys:Ae:={ ins:=[FC],pre:=fun _=>True,out:=fun(l,_)=>[.p WA (Cf l)] }
attribute [local go_sem] Ys
theorem A0u:Ao Tryz.prog 127 Ys:=by
 refine fK [0,2,3,7,16,25] Tryz.func127 Tryz.ntmps127 (AF A34 (AF ME AG)) ?_;rintro w0 O0 ⟨l,u⟩ c ⟨⟨e,-⟩,-⟩ -;simp only[AO]at e;simp only[Ys,AM];repeat'(first|exact trivial|refine eS rfl ?_|refine AB ?_|refine rX c ?_ ?_|refine rC ?_ ?_<;>intro a<;>try(cases a;done))
 refine AJ (ι:={k:Nat//k≤l.length∧OP l k (l.drop k)=Cf l}) (fun k=>⟨[(0,.p FC l),(3,.p (.int .i64) (k.1:Int))],[]⟩) (fun k=>l.length-k.1) ⟨0,Is _,rfl⟩ (AC [] rfl rfl ?_ ?_) (fun k=>?_)
 ·first|exact eN|refine eM ?_
 ·first|exact eN|refine eM ?_
 ·obtain⟨k,hk,hf⟩:=k;simp only;repeat'(first|exact trivial|refine eS rfl ?_|refine AB ?_|refine rX c ?_ ?_|refine rC ?_ ?_<;>intro a<;>try(cases a;done))
  ·exact a
  ·have b:k<l.length:=by exact eV
   rw[MG l l b,At a]at hf;exact fI c [.tmp 2] (by rw[←hf];exact eR)
  ·assumption
  ·rename_i d;have b:k<l.length:=by exact eV
   rw[MG l l b,As (by rw[d];simp),At a]at hf;exact fI c [.tmp 2] (by rw[←hf];exact eR)
  ·exact eV
  ·rename_i d;have b:k<l.length:=by exact eV
   rw[MG l l b,As (by rw[d];simp),As (AAS.2 a)]at hf;refine⟨⟨k+1,by omega,hf⟩,by simp only;omega,AC [] rfl rfl ?_ ?_⟩
   ·first|exact eN|refine eM ?_
   ·first|exact eN|refine eM ?_
  ·have b:l.drop k=[]:=IF (by exact eV);rw[b]at hf;exact fI c [.tmp 2] (by rw[←hf];first|exact eR|refine Ym ?_;rfl)
def Sj (d:List AH) (l:List ByteArray):Nat→List ByteArray→Int
 | _,[]=>0
 | k,x :: r=>if Ap d x<0 then 5 else if AX (l.take k) x=true then 4 else Sj d l (k+1) r
def LC (d:List AH):List AH→Int
 | []=>0
 | x :: l=>if Sj d x.2.1 0 x.2.1≠0 then Sj d x.2.1 0 x.2.1 else LC d l
def LD (d:List AH):Int:=LC d d
theorem RD (d:List AH) (l:List ByteArray) {k:Nat} (h:k<l.length):Sj d l k (l.drop k)=if Ap d (l.getD k ByteArray.empty)<0 then 5 else if AX (l.take k) (l.getD k ByteArray.empty)=true then 4 else Sj d l (k+1) (l.drop (k+1)):=by
 rw[aS h];have e:l.getD k ByteArray.empty=l[k]:=by simp[AS,h]
 rw[e];rfl
theorem Yt (d l:List AH) {k:Nat} (h:k<l.length):LC d (l.drop k)=if Sj d (l.getD k d0).2.1 0 (l.getD k d0).2.1≠0 then Sj d (l.getD k d0).2.1 0 (l.getD k d0).2.1 else LC d (l.drop (k+1)):=by
 rw[aS h];have e:l.getD k d0=l[k]:=by simp[AS,h]
 rw[e];rfl
def S6:Ae:={ ins:=[FC],pre:=fun _=>True,out:=fun(l,_)=>[.p WA (LD l)] }
attribute [local go_sem] S6
theorem tI:Ao Tryz.prog 128 S6:=by
 refine fK [0,2,3,4,5,9,20,29,37] Tryz.func128 Tryz.ntmps128 (AF G0 (AF ME AG)) ?_;rintro w0 O0 ⟨l,u⟩ d ⟨⟨h,g⟩,-⟩ -;simp only[AO]at h;simp only[S6,AM];repeat'(first|exact trivial|refine eS rfl ?_|refine AB ?_|refine rX d ?_ ?_|refine rC ?_ ?_<;>intro a<;>try(cases a;done))
 refine AJ (ι:={i:Nat//i≤l.length∧LC l (l.drop i)=LD l}) (fun i=>⟨[(0,.p FC l),(3,.p (.int .i64) (i.1:Int))],[]⟩) (fun i=>l.length-i.1) ⟨0,Is _,rfl⟩ (AC [] rfl rfl ?_ ?_) (fun i=>?_)
 ·first|exact eN|refine eM ?_
 ·first|exact eN|refine eM ?_
 ·obtain⟨i,hi,hf⟩:=i;simp only;repeat'(first|exact trivial|refine eS rfl ?_|refine AB ?_|refine rX d ?_ ?_|refine rC ?_ ?_<;>intro a<;>try(cases a;done))
  ·exact a
  ·have f:i<l.length:=by exact eV
   have j:=g _ (AD l d0 f);have m:(l.getD i d0).2.1.length≤AO:=j.2.1.1;simp only[AO]at m;rw[Yt l l f]at hf;generalize (l.getD i d0).2.1=sup at *;refine AJ (ι:={k:Nat//k≤sup.length∧Sj l sup k (sup.drop k)=Sj l sup 0 sup}) (fun k=>⟨[(0,.p FC l),(3,.p (.int .i64) (i:Int)),(4,.p B6 sup),(5,.p (.int .i64) (k.1:Int))],[]⟩) (fun k=>sup.length-k.1) ⟨0,Is _,rfl⟩ (AC [] rfl rfl ?_ ?_) (fun k=>?_)
   ·first|exact eN|refine eM ?_
   ·first|exact eN|refine eM ?_
   ·obtain⟨k,hk,c⟩:=k;simp only;repeat'(first|exact trivial|refine eS rfl ?_|refine AB ?_|refine rX d ?_ ?_|refine rC ?_ ?_<;>intro a<;>try(cases a;done))
    ·exact a
    ·have b:k<sup.length:=by exact eV
     rw[RD l sup b,At a]at c;rw[←c,At (by decide)]at hf;exact fI d [.tmp 2] (by rw[←hf];exact eR)
    ·exact eV
    ·rename_i e;have b:k<sup.length:=by exact eV
     rw[RD l sup b,As (AAS.2 e),At a]at c;rw[←c,At (by decide)]at hf;exact fI d [.tmp 2] (by rw[←hf];exact eR)
    ·exact eV
    ·rename_i e;have b:k<sup.length:=by exact eV
     rw[RD l sup b,As (AAS.2 e),As (by rw[a];simp)]at c;refine⟨⟨k+1,by omega,c⟩,by simp only;omega,AC [] rfl rfl ?_ ?_⟩
     ·first|exact eN|refine eM ?_
     ·first|exact eN|refine eM ?_
    ·exact eV
    ·have b:sup.drop k=[]:=IF (by exact eV);rw[b]at c;rw[←c,As (by simp[Sj])]at hf;refine⟨⟨i+1,by omega,hf⟩,by simp only;omega,AC [] rfl rfl ?_ ?_⟩
     ·first|exact eN|refine eM ?_
     ·first|exact eN|refine eM ?_
  ·have b:l.drop i=[]:=IF (by exact eV);rw[b]at hf;exact fI d [.tmp 2] (by rw[←hf];first|exact eR|refine Ym ?_;rfl)
end
section
attribute [local go_sem] OO Yr Jt Yo
theorem E1 {α β:Type} (g:β→α→β) (l:List α) (d:α) (t:β) {i:Nat} (hi:i<l.length):(l.take (i+1)).foldl g t=g ((l.take i).foldl g t) (l.getD i d):=by
 rw[Ax l d hi,ABx];rfl
theorem MJ (l:List ByteArray) (s:ByteArray):(EW l s).length≤l.length+1:=by
 unfold EW;split
 ·omega
 ·have:=A4i (fun x=>HT x s) l;have a:v6 l s≤l.length:=this;simp only[IN,OS,AA7,To];omega
def AN (l:List AH):List ByteArray:=l.foldl (fun o x=>EW o x.1) []
theorem Dv (l:List AH) (k:Nat):(AN (l.take k)).length≤k:=by
 have key:∀(l:List AH) (o:List ByteArray),(l.foldl (fun o x=>EW o x.1) o).length≤o.length+l.length:=by
  intro l;induction l with
  | nil=>intro o;simp
  | cons x l b =>
   intro o;have h1:=b (EW o x.1);have a:=MJ o x.1;simp only[Rp,Of];omega
 have h1:=key (l.take k) [];have a:=AAt k l;unfold AN;simp only[AAN]at h1;omega
def Pm:Ae:={ ins:=[FC],pre:=fun(l,_)=>List.length l≤100000,out:=fun(l,_)=>[.p B6 (AN l)] }
attribute [local go_sem] Pm
theorem XK:Ao Tryz.prog 98 Pm:=by
 refine fK [0,2,3,4,8] Tryz.func98 Tryz.ntmps98 (AF RA AG) ?_;rintro w0 O0 ⟨l,u⟩ b-d;have d:l.length≤100000:=d;simp only[Pm,AM];repeat'(first|exact trivial|refine eS rfl ?_|refine AB ?_|refine rX b ?_ ?_|refine rC ?_ ?_<;>intro a<;>try(cases a;done))
 refine AJ (ι:={k:Nat//k≤l.length}) (fun k=>⟨[(0,.p FC l),(3,.p B6 (AN (l.take k.1))),(4,.p (.int .i64) (k.1:Int))],[]⟩) (fun k=>l.length-k.1) ⟨0,Is _⟩ (AC [] rfl rfl ?_ ?_) (fun k=>?_)
 ·first|exact eN|refine eM ?_
 ·first|exact eN|refine eM ?_
  rfl
 ·obtain⟨k,hk⟩:=k;have hn:=Dv l k;have hs:=fun h:k<l.length=>E1 (fun(o:List ByteArray) (x:AH)=>EW o x.1) l d0 [] h;simp only;repeat'(first|exact trivial|refine eS rfl ?_|refine AB ?_|refine rX b ?_ ?_|refine rC ?_ ?_<;>intro a<;>try(cases a;done))
  ·exact⟨a,by omega⟩
  ·exact eV
  ·have c:k<l.length:=by exact eV
   have e:=hs c;refine⟨⟨k+1,by omega⟩,by simp only;omega,AC [] rfl rfl ?_ ?_⟩
   ·first|exact eN|refine eM ?_
   ·simp only;have e:AN (l.take (k+1))=EW (AN (l.take k)) (l.getD k d0).1:=e;rw[e];first|exact eN|refine eM ?_
  ·have c:l.take k=l:=BY (by exact eV);rw[c];exact fI b [.tmp 2]
def JL (out:List ByteArray) (s:Bool×ByteArray) (x:AH):Bool×ByteArray :=
 if (AX out x.1||!IX x out)=true then s else (true,if (!s.1||HT x.1 s.2)=true then x.1 else s.2)
def IY (d:List AH) (out:List ByteArray):Bool×ByteArray:=d.foldl (JL out) (false,ByteArray.empty)
def JM (d:List AH):Nat→List ByteArray→List ByteArray
 | 0,out=>out
 | n+1,out=>if (IY d out).1=true then JM d n (out++[(IY d out).2]) else out
def Bd (d:List AH):List ByteArray:=JM d d.length []
def IZ (d:List AH) (out:List ByteArray):Nat:=d.countP fun x=>!AX out x.1
theorem Cr (s:ByteArray):Aa s s=true:=by unfold Aa;simp
theorem OQ (out:List ByteArray) (s x:ByteArray):AX (out++[s]) x=(AX out x||Aa s x):=by
 unfold AX;simp[ABU]
theorem tJ (d:List AH) (out:List ByteArray) (h:(IY d out).1=true):∃x∈d,x.1=(IY d out).2∧AX out x.1=false:=by
 have key:∀(l:List AH) (s:Bool×ByteArray),(∀x∈l,x∈d)→(s.1=true→∃x∈d,x.1=s.2∧AX out x.1=false)→(l.foldl (JL out) s).1=true →
   ∃x∈d,x.1=(l.foldl (JL out) s).2∧AX out x.1=false:=by
  intro l;induction l with
  | nil=>intro s _ hs h;exact hs h
  | cons y l g =>
   intro s c hs h;rw[Rp]at h ⊢;refine g _ (fun x e=>c x (by simp[e])) (fun hp=>?_) h;unfold JL at hp ⊢;split
   ·rename_i a;rw[At a]at hp;exact hs hp
   ·rename_i a;simp only;have f:AX out y.1=false:=by
     cases hh:AX out y.1 with
     | false=>rfl
     | true=>rw[hh]at a;simp at a
    split
    ·exact⟨y,c y (by simp),rfl,f⟩
    ·rename_i b;have:s.1=true:=by
      cases hh:s.1 with
      | true=>rfl
      | false=>rw[hh]at b;simp at b
     exact hs this
 exact key d _ (fun _ h=>h) (fun h=>by cases h) h
theorem fR {d:List AH} {out:List ByteArray} (h:(IY d out).1=true):IZ d (out++[(IY d out).2])<IZ d out:=by
 obtain⟨x,e,h1,c⟩:=tJ d out h;generalize (IY d out).2=s at *;unfold IZ;have key:∀l:List AH,(l.countP fun y=>!AX (out++[s]) y.1)≤l.countP fun y=>!AX out y.1:=by
  intro l;refine List.countP_mono_left fun y _ a=>?_;rw[OQ]at a;cases hh:AX out y.1 with
  | false=>rfl
  | true=>rw[hh]at a;simp at a
 obtain⟨l1,l2,rfl⟩:=List.append_of_mem e;rw[ACq,ACq,AB5,AB5];have f:=key l1;have g:=key l2;have b:AX (out++[s]) x.1=true:=by rw[OQ,h1,Cr,Bool.or_true]
 rw[b,c];simp only[ACe,ACv,AAH];simp only[AAL,AAY];omega
def Yu:Ae:={ ins:=[FC],pre:=fun(l,_)=>List.length l≤100000,out:=fun(l,_)=>[.p B6 (Bd l)] }
theorem tK:Ao Tryz.prog 129 Yu:=by
 refine fK [0,2,3,4,5,6,7,11,29,40,46] Tryz.func129 Tryz.ntmps129 (AF G0 (AF A0t AG)) ?_;rintro w0 O0 ⟨d,u⟩ j-r;have r:d.length≤100000:=r;simp only[Yu,AM];repeat'(first|exact trivial|refine eS rfl ?_|refine AB ?_|refine rX j ?_ ?_|refine rC ?_ ?_<;>intro a<;>try(cases a;done))
 refine AJ (ι:={x:Nat×List ByteArray×Bool//x.1+x.2.1.length≤d.length∧(x.2.2=true→IZ d x.2.1≤x.1∧JM d x.1 x.2.1=Bd d)∧(x.2.2=false→x.2.1=Bd d)}) (fun x=>⟨[(0,.p FC d),(3,.sr 50 T9 0 x.1.2.1.length),(4,.p .bool x.1.2.2)],[(50,.arr 9 T9 x.1.2.1)]⟩) (fun x=>(if x.1.2.2=true then x.1.1+1 else 0)) ⟨(d.length,[],true),by simp,fun _=>⟨List.countP_le_length,rfl⟩,fun h=>by cases h⟩ (AC [(50,.nil)] rfl rfl ?_ ?_) (fun x=>?_)
 ·first|exact eN|refine eM ?_
 ·first|exact eN|refine eM ?_
 ·obtain⟨⟨n,out,C⟩,s,t,v⟩:=x;simp only at s t v;simp only;repeat'(first|exact trivial|refine eS rfl ?_|refine AB ?_|refine rX j ?_ ?_|refine rC ?_ ?_<;>intro a<;>try(cases a;done))
  ·subst a;obtain⟨hu,hp⟩:=t rfl;have B:({ data:=#[] }:ByteArray).size≤AO:=by decide
   rw[At B];refine AJ (ι:={y:Nat×Bool×ByteArray//y.1≤d.length∧(d.take y.1).foldl (JL out) (false,ByteArray.empty)=y.2}) (fun y=>⟨[(0,.p FC d),(3,.sr 50 T9 0 out.length),(4,.p .bool y.1.2.1),(5,.p T9 y.1.2.2),(6,.p (.int .i64) (y.1.1:Int))],[(50,.arr 9 T9 out)]⟩) (fun y=>d.length-y.1.1) ⟨(0,false,ByteArray.empty),by simp,rfl⟩ (AC [(50,.nm 50)] rfl rfl ?_ ?_) (fun y=>?_)
   ·first|exact eN|refine eM ?_
   ·first|exact eN|refine eM ?_
    rfl
   ·obtain⟨⟨k,w,b⟩,hk,c⟩:=y;simp only at hk c;have q:∀h:k<d.length,(d.take (k+1)).foldl (JL out) (false,ByteArray.empty)=JL out (w,b) (d.getD k d0):=fun h=>by
     rw[E1 (JL out) d d0 _ h,c]
    simp only;repeat'(first|exact trivial|refine eS rfl ?_|refine AB ?_|refine rX j ?_ ?_|refine rC ?_ ?_<;>intro a<;>try(cases a;done))
    ·exact⟨a,fun _=>a⟩
    ·exact eV
    ·have g:k<d.length:=by exact eV
     refine⟨⟨(k+1,w,b),by simp only;omega,?_⟩,by simp only;omega,AC [(50,.nm 50)] rfl rfl ?_ ?_⟩
     ·simp only;rw[q g];unfold JL;rw[At];rw[iS,OR];exact a
     ·first|exact eN|refine eM ?_
     ·first|exact eN|refine eM ?_
    ·exact fun _=>by assumption
    ·assumption
    ·exact eV
    ·rename_i f;have g:k<d.length:=by exact eV
     refine⟨⟨(k+1,true,(d.getD k d0).1),by simp only;omega,?_⟩,by simp only;omega,AC [(50,.nm 50)] rfl rfl ?_ ?_⟩
     ·simp only;rw[q g];unfold JL;rw[As (by rw[f.1,f.2];simp),At (by rw[iS,OR];exact a)]
     ·first|exact eN|refine eM ?_
     ·first|exact eN|refine eM ?_
    ·exact eV
    ·rename_i f;have g:k<d.length:=by exact eV
     refine⟨⟨(k+1,true,b),by simp only;omega,?_⟩,by simp only;omega,AC [(50,.nm 50)] rfl rfl ?_ ?_⟩
     ·simp only;rw[q g];unfold JL;rw[As (by rw[f.1,f.2];simp),As (by rw[iS,OR];rintro (h|h)<;>simp_all)]
     ·first|exact eN|refine eM ?_
     ·first|exact eN|refine eM ?_
    ·simp only[AO];dsimp only[Ty.den]at *;omega
    ·subst a;have l:d.take k=d:=BY (by exact eV);rw[l]at c;have i:IY d out=(true,b):=c;have m:=fR (d:=d) (out:=out) (by rw[i]);rw[i]at m;obtain⟨e,rfl⟩:∃e,n=e+1:=⟨n-1,by omega⟩;have o:JM d e (out++[b])=Bd d:=by
      rw[←hp];show _=if (IY d out).1=true then JM d e (out++[(IY d out).2]) else out
      rw[i,At rfl]
     have m:IZ d (out++[b])<IZ d out:=m;have A:IZ d (out++[b])≤e:=by omega
     refine⟨⟨(e,out++[b],true),by simp only[IN,To];omega,fun _=>⟨A,o⟩,fun h=>by cases h⟩,by simp,AC [(50,.nm 50)] rfl rfl ?_ ?_⟩
     ·first|exact eN|refine eM ?_
     ·first|exact eN|refine eM ?_
    ·subst a;have l:d.take k=d:=BY (by exact eV);rw[l]at c;have i:IY d out=(false,b):=c;have o:out=Bd d:=by
      rw[←hp];cases n with
      | zero=>rfl
      | succ n =>
       show _=if (IY d out).1=true then JM d n (out++[(IY d out).2]) else out
       rw[i,As (by simp)]
     refine⟨⟨(n,out,false),s,(fun h=>by cases h),fun _=>o⟩,by simp,AC [(50,.nm 50)] rfl rfl ?_ ?_⟩
     ·first|exact eN|refine eM ?_
     ·first|exact eN|refine eM ?_
  ·subst a;have z:=v rfl;rw[z];refine Gy [50] ?_;exact fI j [.tmp 2]
end
section
attribute [local go_sem] Yq Ys S6 Yu
def Ia (d:List AH):Nat:=d.countP fun x=>x.2.1.length==0
theorem fS (d:List AH) {k:Nat} (h:k<d.length):Ia (d.take (k+1))=Ia (d.take k)+if ((d.getD k d0).2.1.length==0)=true then 1 else 0:=by
 unfold Ia;rw[Ax d d0 h,ACq,AB5,List.countP_nil];omega
theorem tL (d:List AH):Ia d≤d.length:=List.countP_le_length
def A4 (d:List AH):Int :=
 if FA d≠0 then FA d else if Cf d≠0 then Cf d else if LD d≠0 then LD d else if Ia d≠1 then 1 else if (Bd d).length<d.length then 6 else 0
theorem SG {d:List AH} (h:FA d=0):d.length≤256:=by
 unfold FA at h;split at h
 ·cases h
 ·omega
def S7:Ae:={ ins:=[FC],pre:=fun _=>True,out:=fun(l,_)=>[.p WA (A4 l)] }
attribute [local go_sem] S7
theorem tM:Ao Tryz.prog 97 S7:=by
 refine fK [0,2,3,4,5,6,7,11,16,21,26,35,39,45] Tryz.func97 Tryz.ntmps97 (AF A0s (AF A0u (AF tI (AF tK AG)))) ?_;rintro w0 O0 ⟨d,u⟩ c - -;simp only[S7,AM];repeat'(first|exact trivial|refine eS rfl ?_|refine AB ?_|refine rX c ?_ ?_|refine rC ?_ ?_<;>intro a<;>try(cases a;done))
 ·have h1:A4 d=FA d:=by unfold A4;rw[At a]
  exact fI c [.tmp 2] (by rw[h1];exact eR)
 ·rename_i hs;have hs:FA d=0:=by simpa using hs
  have h1:A4 d=Cf d:=by unfold A4;rw[As (by rw[hs];simp),At a]
  exact fI c [.tmp 2] (by rw[h1];exact eR)
 ·rename_i hs hn;have hs:FA d=0:=by simpa using hs
  have hn:Cf d=0:=by simpa using hn
  have h1:A4 d=LD d:=by unfold A4;rw[As (by rw[hs];simp),As (by rw[hn];simp),At a]
  exact fI c [.tmp 2] (by rw[h1];exact eR)
 ·rename_i hs hn;have hs:FA d=0:=by simpa using hs
  have hn:Cf d=0:=by simpa using hn
  have hu:LD d=0:=by simpa using a
  have i:=SG hs;have h1:A4 d=if Ia d≠1 then 1 else if (Bd d).length<d.length then 6 else 0:=by
   unfold A4;rw[As (by rw[hs];simp),As (by rw[hn];simp),As (by rw[hu];simp)]
  refine AJ (ι:={k:Nat//k≤d.length}) (fun k=>⟨[(0,.p FC d),(6,.p (.int .i64) (Ia (d.take k.1):Int)),(7,.p (.int .i64) (k.1:Int))],[]⟩) (fun k=>d.length-k.1) ⟨0,Is _⟩ (AC [] rfl rfl ?_ ?_) (fun k=>?_)
  ·first|exact eN|refine eM ?_
  ·first|exact eN|refine eM ?_
   rfl
  ·obtain⟨k,hk⟩:=k;have j:=tL (d.take k);have l:=AAt k d;have g:=fun h:k<d.length=>fS d h;simp only;repeat'(first|exact trivial|refine eS rfl ?_|refine AB ?_|refine rX c ?_ ?_|refine rC ?_ ?_<;>intro a<;>try(cases a;done))
   ·exact a
   ·exact eV
   ·exact eV
   ·have b:k<d.length:=by exact eV
    have e:=g b;rw[At (by rw[tO];exact Int.ofNat_eq_zero.1 a)]at e;refine⟨⟨k+1,by omega⟩,by simp only;omega,AC [] rfl rfl ?_ ?_⟩
    ·first|exact eN|refine eM ?_
    ·simp only[e];first|exact eN|refine eM ?_
   ·exact eV
   ·have b:k<d.length:=by exact eV
    have e:=g b;rw[As (by rw[tO];exact fun h=>a (Int.ofNat_eq_zero.2 h))]at e;refine⟨⟨k+1,by omega⟩,by simp only;omega,AC [] rfl rfl ?_ ?_⟩
    ·first|exact eN|refine eM ?_
    ·simp only[e];first|exact eN|refine eM ?_
   ·have b:d.take k=d:=BY (by exact eV);rw[b]at a;rw[At (fun h=>a (by rw[h];rfl))]at h1;exact fI c [.tmp 2] (by rw[h1];exact eR)
   ·show d.length≤100000;omega
   ·rename_i f;have b:d.take k=d:=BY (by exact eV);rw[b]at f;have f:(Ia d:Int)=1:=by simpa using f
    rw[As (by omega),At (If.1 a)]at h1;exact fI c [.tmp 2] (by rw[h1];exact eR)
   ·rename_i f;have b:d.take k=d:=BY (by exact eV);rw[b]at f;have f:(Ia d:Int)=1:=by simpa using f
    rw[As (by omega),As (fun h=>absurd (gO.1 a) (Nat.not_le.2 h))]at h1;exact fI c [.tmp 2] (by rw[h1];exact eR)
end
section
attribute [local go_sem] OO Jt Yo
def KL (o:List ByteArray) (s:ByteArray):List ByteArray:=if AX o s=true then o else o++[s]
def MK (d:List AH) (s:ByteArray):List ByteArray:=(d.getD (Ap d s).toNat d0).2.1
def Ib (d:List AH):Nat→Nat→List ByteArray→List ByteArray
 | 0,_,o=>o
 | n+1,i,o=>if i<o.length then Ib d n (i+1) ((MK d (o.getD i ByteArray.empty)).foldl KL o) else o
def KM (l:List ByteArray):List ByteArray:=l.foldl EW []
theorem XL (l:List ByteArray):(KM l).length≤l.length:=by
 have key:∀(l o:List ByteArray),(l.foldl EW o).length≤o.length+l.length:=by
  intro l;induction l with
  | nil=>intro o;simp
  | cons x l a =>
   intro o;have h1:=a (EW o x);have b:=MJ o x;simp only[Rp,Of];omega
 have:=key l [];simpa[KM] using this
def LE (d:List AH) (s:ByteArray):List ByteArray:=if Ap d s<0 then [] else KM (Ib d d.length 0 [s])
def Pn (d:List AH):Prop:=∀x∈d,∀s∈x.2.1,0≤Ap d s
theorem XM (s:ByteArray):∀(l:List AH) (k:Nat),Cq s k l=-1∨((k:Int)≤Cq s k l∧Cq s k l<(k:Int)+l.length∧Aa (l.getD ((Cq s k l).toNat-k) d0).1 s=true)
 | [],_=>.inl rfl
 | x :: l,k=>by
  simp only[Cq];split
  ·rename_i h;right;refine⟨by omega,by simp only[Of];omega,?_⟩;have:((k:Int).toNat-k)=0:=by omega
   rw[this];exact h
  ·rcases XM s l (k+1) with h|⟨h1,b,a⟩
   ·exact .inl h
   ·right;refine⟨by omega,by simp only[Of];omega,?_⟩;have:((Cq s (k+1) l).toNat-k)=((Cq s (k+1) l).toNat-(k+1))+1:=by omega
    rw[this];exact a
theorem DU (d:List AH) (s:ByteArray):Ap d s<0∨(0≤Ap d s∧Ap d s<(d.length:Int)∧Aa (d.getD (Ap d s).toNat d0).1 s=true):=by
 rcases XM s d 0 with h|⟨h1,a,b⟩
 ·left;show Cq s 0 d<0;omega
 ·have a:Ap d s<((0:Nat):Int)+d.length:=a;exact .inr ⟨h1,by omega,b⟩
theorem H0 {a b:ByteArray}:Aa a b=true↔a.toList=b.toList:=by unfold Aa;simp
theorem Dw {a b:ByteArray} (h:Aa a b=true):Aa b a=true:=H0.2 (H0.1 h).symm
theorem BE {a b c:ByteArray} (h:Aa a b=true) (g:Aa b c=true):Aa a c=true:=H0.2 ((H0.1 h).trans (H0.1 g))
structure Yv (d:List AH) (o:List ByteArray):Prop where
 decl:∀s∈o,0≤Ap d s
 nd:o.Pairwise fun a b=>Aa a b=false
theorem LF (d:List AH):∀ {o:List ByteArray},Yv d o→(o.map fun s=>(Ap d s).toNat).Nodup
 | [],_=>by simp
 | s :: o,h=>by
  rw[AA1,AAd];have c:=AAk.1 h.nd;refine⟨fun i=>?_,LF d ⟨fun x a=>h.decl x (by simp[a]),c.2⟩⟩;obtain⟨x,a,e⟩:=IS.1 i;have h1:=h.decl s (by simp);have j:=h.decl x (by simp[a]);rcases DU d s with g|⟨_,_,f⟩
  ·omega
  ·rcases DU d x with g|⟨_,_,b⟩
   ·omega
   ·rw[e]at b;have:=c.1 x a;rw[BE (Dw f) b]at this;cases this
theorem Yv.len {d:List AH} {o:List ByteArray} (h:Yv d o):o.length≤d.length:=by
 have:=EL d.length (o.map fun s=>(Ap d s).toNat) (LF d h) (fun j a=>by
  obtain⟨s,hs,rfl⟩:=IS.1 a;have h1:=h.decl s hs;rcases DU d s with g|⟨_,g,_⟩<;>omega)
 simpa using this
theorem Po {o:List ByteArray} {s:ByteArray} (h:AX o s=false):∀x∈o,Aa x s=false:=fun x a=>by
 cases hh:Aa x s with
 | false=>rfl
 | true=>exact absurd h (by rw[show AX o s=true from TO.2 ⟨x,a,hh⟩];simp)
theorem pO {d:List AH} {o:List ByteArray} (h:Yv d o) {s:ByteArray} (hs:0≤Ap d s):Yv d (KL o s):=by
 unfold KL;split
 ·exact h
 ·rename_i e;have e:AX o s=false:=by simpa using e
  refine⟨fun x c=>?_,?_⟩
  ·rcases OF.1 c with c|c
   ·exact h.decl x c
   ·have:x=s:=by simpa using c
    rw[this];exact hs
  ·rw[ABe];refine⟨h.nd,by simp,fun a ha b f=>?_⟩;have:b=s:=by simpa using f
   rw[this];exact Po e a ha
theorem fT {d:List AH}:∀ {l o:List ByteArray},(∀s∈l,0≤Ap d s)→Yv d o→Yv d (l.foldl KL o)∧o.length≤(l.foldl KL o).length
 | [],o,_,h=>⟨h,No _⟩
 | s :: l,o,a,h=>by
  obtain⟨b,c⟩:=fT (l:=l) (fun x e=>a x (by simp[e])) (pO h (a s (by simp)));refine⟨b,aT ?_ c⟩;unfold KL;split<;>simp
theorem fU {d:List AH} (b:Pn d) (s:ByteArray):∀x∈MK d s,0≤Ap d x:=by
 intro x a;unfold MK at a;by_cases h:(Ap d s).toNat<d.length
 ·exact b _ (AD d d0 h) x a
 ·rw[AS,iN (by omega)]at a;cases a
def lL:Ae:={ ins:=[FC,T9],pre:=fun(d,_,_)=>Pn d∧List.length d≤256,out:=fun(d,s,_)=>[.p B6 (LE d s)] }
theorem A0v:Ao Tryz.prog 155 lL:=by
 refine fK [0,1,4,5,6,7,8,9,10,14,20,36,45,56] Tryz.func155 Tryz.ntmps155 (AF ME (AF G0 (AF RA AG))) ?_;rintro w0 O0 ⟨d,s,u⟩ b ⟨⟨Q,G⟩,-⟩ ⟨O,z⟩;have z:d.length≤256:=z;simp only[lL,AM];repeat'(first|exact trivial|refine eS rfl ?_|refine AB ?_|refine rX b ?_ ?_|refine rC ?_ ?_<;>intro a<;>try(cases a;done))
 ·have h1:LE d s=[]:=by unfold LE;rw[At a]
  exact fI b [.tmp 4] (by rw[h1];exact eR)
 ·have h1:LE d s=KM (Ib d d.length 0 [s]):=by unfold LE;rw[As (AAS.2 a)]
  have F:Yv d [s]:=⟨fun x y=>by
   have:x=s:=by simpa using y
   rw[this];exact a,by simp⟩
  refine AJ (ι:={x:Nat×List ByteArray//x.1≤x.2.length∧Yv d x.2∧Ib d (d.length-x.1) x.1 x.2=Ib d d.length 0 [s]}) (fun x=>⟨[(0,.p FC d),(1,.p T9 s),(5,.sr 16 T9 0 x.1.2.length),(6,.p (.int .i64) (x.1.1:Int))],[(16,.arr 9 T9 x.1.2)]⟩) (fun x=>d.length-x.1.1) ⟨(0,[s]),by simp,F,rfl⟩ (AC [(16,.nm 16)] rfl rfl ?_ ?_) (fun x=>?_)
  ·first|exact eN|refine eM ?_
  ·first|exact eN|refine eM ?_
  ·obtain⟨⟨i,o⟩,hi,c,t⟩:=x;simp only at hi c t;have U:=c.len;simp only;repeat'(first|exact trivial|refine eS rfl ?_|refine AB ?_|refine rX b ?_ ?_|refine rC ?_ ?_<;>intro a<;>try(cases a;done))
   ·have q:i<o.length:=by exact eV
    have A:=c.decl _ (AD o ByteArray.empty q);refine⟨a,A,?_⟩;rcases DU d (o.getD i ByteArray.empty) with g|⟨_,g,_⟩
    ·omega
    ·exact g
   ·have q:i<o.length:=by exact eV
    have A:=c.decl _ (AD o ByteArray.empty q);have K:=fU O (o.getD i ByteArray.empty);have C:Ib d (d.length-(i+1)) (i+1) ((MK d (o.getD i ByteArray.empty)).foldl KL o)=Ib d d.length 0 [s]:=by
     rw[←t];obtain⟨m,B⟩:∃m,d.length-i=m+1:=⟨d.length-i-1,by omega⟩;have H:d.length-(i+1)=m:=by omega
     rw[B,H];show _=if i<o.length then Ib d m (i+1) ((MK d (o.getD i ByteArray.empty)).foldl KL o) else o
     rw[At q]
    have M:(MK d (o.getD i ByteArray.empty)).length≤AO:=by
     rcases DU d (o.getD i ByteArray.empty) with g|⟨_,g,_⟩
     ·omega
     ·exact(G _ (AD d d0 (k:=(Ap d (o.getD i ByteArray.empty)).toNat) (by omega))).2.1.1
    have N:(List.getD d (Ap d (o.getD i ByteArray.empty)).toNat (ByteArray.empty,[],[])).2.1=MK d (o.getD i ByteArray.empty):=rfl;rw[N];generalize MK d (o.getD i ByteArray.empty)=sup at *;simp only[AO]at M;refine AJ (ι:={k:Nat//k≤sup.length}) (fun k=>⟨[(0,.p FC d),(1,.p T9 s),(5,.sr 16 T9 0 ((sup.take k.1).foldl KL o).length),(6,.p (.int .i64) (i:Int)),(7,.p B6 sup),(8,.p (.int .i64) (k.1:Int))],[(16,.arr 9 T9 ((sup.take k.1).foldl KL o))]⟩) (fun k=>sup.length-k.1) ⟨0,Is _⟩ (AC [(16,.nm 16)] rfl rfl ?_ ?_) (fun k=>?_)
    ·first|exact eN|refine eM ?_
     rfl
    ·first|exact eN|refine eM ?_
     rfl
    ·obtain⟨k,hk⟩:=k;have w:=fT (l:=sup.take k) (o:=o) (fun x y=>K x (AA9 y)) c;have S:=w.1.len;have E:=fun h:k<sup.length=>E1 KL sup ByteArray.empty o h;simp only;generalize D:(sup.take k).foldl KL o=n at *;repeat'(first|exact trivial|refine eS rfl ?_|refine AB ?_|refine rX b ?_ ?_|refine rC ?_ ?_<;>intro a<;>try(cases a;done))
     ·exact a
     ·refine⟨by exact eV,?_⟩;simp only[AO];dsimp only[Ty.den]at *;omega
     ·exact eV
     ·have f:k<sup.length:=by exact eV
      have e:=E f;have r:KL n (sup.getD k ByteArray.empty)=n++[sup.getD k ByteArray.empty]:=by unfold KL;rw[As (by rw[a];simp)]
      rw[r]at e;refine⟨⟨k+1,by omega⟩,by simp only;omega,AC [(16,.nm 16)] rfl rfl ?_ ?_⟩
      ·simp only[e];first|exact eN|refine eM ?_
      ·simp only[e];first|exact eN|refine eM ?_
     ·exact eV
     ·have f:k<sup.length:=by exact eV
      have e:=E f;have r:KL n (sup.getD k ByteArray.empty)=n:=by unfold KL;rw[At a]
      rw[r]at e;refine⟨⟨k+1,by omega⟩,by simp only;omega,AC [(16,.nm 16)] rfl rfl ?_ ?_⟩
      ·simp only[e];first|exact eN|refine eM ?_
      ·simp only[e];first|exact eN|refine eM ?_
     ·exact eV
     ·have f:sup.take k=sup:=BY (by exact eV);rw[f]at D;rw[D]at C;have J:=w.1;have T:=w.2;refine⟨⟨(i+1,n),by simp only;omega,J,C⟩,by simp only;omega,AC [(16,.nm 16)] rfl rfl ?_ ?_⟩
      ·first|exact eN|refine eM ?_
      ·first|exact eN|refine eM ?_
   ·have I:o=Ib d d.length 0 [s]:=by
     rw[←t];cases B:d.length-i with
     | zero=>rfl
     | succ m =>
      show _=if i<o.length then _ else o
      rw[As (by exact eV)]
    rw[←I]at h1;refine AJ (ι:={j:Nat//j≤o.length}) (fun j=>⟨[(0,.p FC d),(5,.sr 16 T9 0 o.length),(9,.p B6 ((o.take j.1).foldl EW [])),(10,.p (.int .i64) (j.1:Int))],[(16,.arr 9 T9 o)]⟩) (fun j=>o.length-j.1) ⟨0,Is _⟩ (AC [(16,.nm 16)] rfl rfl ?_ ?_) (fun j=>?_)
    ·first|exact eN|refine eM ?_
    ·first|exact eN|refine eM ?_
     rfl
    ·obtain⟨j,R⟩:=j;have L:=fun h:j<o.length=>E1 EW o ByteArray.empty [] h;simp only;repeat'(first|exact trivial|refine eS rfl ?_|refine AB ?_|refine rX b ?_ ?_|refine rC ?_ ?_<;>intro a<;>try(cases a;done))
     ·refine⟨a,?_⟩;have:=XL (o.take j);have P:=AAt j o;unfold KM at this;dsimp only[Ty.den]at *;omega
     ·exact eV
     ·have v:j<o.length:=by exact eV
      have e:=L v;refine⟨⟨j+1,by omega⟩,by simp only;omega,AC [(16,.nm 16)] rfl rfl ?_ ?_⟩
      ·first|exact eN|refine eM ?_
      ·simp only[e];first|exact eN|refine eM ?_
     ·have v:o.take j=o:=BY (by exact eV);rw[v];exact fI b [.tmp 4] (by rw[h1];unfold KM;exact eR)
end
section
attribute [local go_sem] OO Jt Yo
def FJ (s:ByteArray) (o:List ByteArray) (x:AH):List ByteArray:=if (AX x.2.1 s&&!AX o x.1)=true then o++[x.1] else o
def Cg (d:List AH):Nat→Nat→List ByteArray→List ByteArray
 | 0,_,o=>o
 | n+1,i,o=>if i<o.length then Cg d n (i+1) (d.foldl (FJ (o.getD i ByteArray.empty)) o) else o
def Ci (d:List AH) (s:ByteArray):List ByteArray:=if Ap d s<0 then [] else KM (Cg d d.length 0 [s])
theorem UV (s:ByteArray):∀(l:List AH) (k:Nat) (x:AH),x∈l→Aa x.1 s=true→0≤Cq s k l
 | y :: l,k,x,a,h=>by
  simp only[Cq];split
  ·omega
  ·rename_i b;rcases By.1 a with rfl|a
   ·exact absurd h b
   ·exact UV s l (k+1) x a h
theorem Da {d:List AH} {x:AH} (a:x∈d):0≤Ap d x.1:=UV x.1 d 0 x a (Cr _)
theorem A36 {d:List AH} {o:List ByteArray} (h:Yv d o) (s:ByteArray) {x:AH} (b:x∈d):Yv d (FJ s o x):=by
 unfold FJ;split
 ·rename_i a;rw[AT,OR]at a;have:=pO h (Da b);unfold KL at this
  rwa [As (by rw[a.2];simp)]at this
 ·exact h
theorem UW {d:List AH} (s:ByteArray):∀ {l:List AH} {o:List ByteArray},(∀x∈l,x∈d)→Yv d o→Yv d (l.foldl (FJ s) o)∧o.length≤(l.foldl (FJ s) o).length
 | [],o,_,h=>⟨h,No _⟩
 | x :: l,o,a,h=>by
  obtain⟨b,c⟩:=UW s (l:=l) (fun y e=>a y (by simp[e])) (A36 h s (a x (by simp)));refine⟨b,aT ?_ c⟩;unfold FJ;split<;>simp
theorem RE (s:ByteArray) {i:Nat}:∀ {l:List AH} {o:List ByteArray},i<o.length→(l.foldl (FJ s) o).getD i ByteArray.empty=o.getD i ByteArray.empty
 | [],_,_=>rfl
 | x :: l,o,h=>by
  have a:i<(FJ s o x).length∧(FJ s o x).getD i ByteArray.empty=o.getD i ByteArray.empty:=by
   unfold FJ;split
   ·refine⟨by rw[IN];omega,?_⟩;simp only[AS];rw[oS h]
   ·exact⟨h,rfl⟩
  rw[Rp,RE s a.1,a.2]
def Yw:Ae:={ ins:=[FC,T9],pre:=fun(d,_,_)=>List.length d≤256,out:=fun(d,s,_)=>[.p B6 (Ci d s)] }
attribute [local go_sem] Yw
theorem A0w:Ao Tryz.prog 130 Yw:=by
 refine fK [0,1,4,5,6,7,8,9,13,19,25,47,59] Tryz.func130 Tryz.ntmps130 (AF ME (AF G0 (AF RA AG))) ?_;rintro w0 O0 ⟨d,s,u⟩ b-y;have y:d.length≤256:=y;simp only[Yw,AM];repeat'(first|exact trivial|refine eS rfl ?_|refine AB ?_|refine rX b ?_ ?_|refine rC ?_ ?_<;>intro a<;>try(cases a;done))
 ·have h1:Ci d s=[]:=by unfold Ci;rw[At a]
  exact fI b [.tmp 4] (by rw[h1];exact eR)
 ·have h1:Ci d s=KM (Cg d d.length 0 [s]):=by unfold Ci;rw[As (AAS.2 a)]
  have F:Yv d [s]:=⟨fun x v=>by
   have:x=s:=by simpa using v
   rw[this];exact a,by simp⟩
  refine AJ (ι:={x:Nat×List ByteArray//x.1≤x.2.length∧Yv d x.2∧Cg d (d.length-x.1) x.1 x.2=Cg d d.length 0 [s]}) (fun x=>⟨[(0,.p FC d),(5,.sr 15 T9 0 x.1.2.length),(6,.p (.int .i64) (x.1.1:Int))],[(15,.arr 9 T9 x.1.2)]⟩) (fun x=>d.length-x.1.1) ⟨(0,[s]),by simp,F,rfl⟩ (AC [(15,.nm 15)] rfl rfl ?_ ?_) (fun x=>?_)
  ·first|exact eN|refine eM ?_
  ·first|exact eN|refine eM ?_
  ·obtain⟨⟨i,o⟩,hi,q,r⟩:=x;simp only at hi q r;have P:=q.len;simp only;repeat'(first|exact trivial|refine eS rfl ?_|refine AB ?_|refine rX b ?_ ?_|refine rC ?_ ?_<;>intro a<;>try(cases a;done))
   ·have z:i<o.length:=by exact eV
    have B:Cg d (d.length-(i+1)) (i+1) (d.foldl (FJ (o.getD i ByteArray.empty)) o)=Cg d d.length 0 [s]:=by
     rw[←r];obtain⟨m,A⟩:∃m,d.length-i=m+1:=⟨d.length-i-1,by omega⟩;have G:d.length-(i+1)=m:=by omega
     rw[A,G];show _=if i<o.length then Cg d m (i+1) (d.foldl (FJ (o.getD i ByteArray.empty)) o) else o
     rw[At z]
    refine AJ (ι:={k:Nat//k≤d.length}) (fun k=>⟨[(0,.p FC d),(5,.sr 15 T9 0 ((d.take k.1).foldl (FJ (o.getD i ByteArray.empty)) o).length),(6,.p (.int .i64) (i:Int)),(7,.p (.int .i64) (k.1:Int))],[(15,.arr 9 T9 ((d.take k.1).foldl (FJ (o.getD i ByteArray.empty)) o))]⟩) (fun k=>d.length-k.1) ⟨0,Is _⟩ (AC [(15,.nm 15)] rfl rfl ?_ ?_) (fun k=>?_)
    ·first|exact eN|refine eM ?_
     rfl
    ·first|exact eN|refine eM ?_
     rfl
    ·obtain⟨k,hk⟩:=k;have g:=UW (o.getD i ByteArray.empty) (l:=d.take k) (o:=o) (fun x v=>AA9 v) q;have N:=g.1.len;have E:=fun h:k<d.length=>E1 (FJ (o.getD i ByteArray.empty)) d d0 o h;have D:((d.take k).foldl (FJ (o.getD i ByteArray.empty)) o).getD i ByteArray.empty=o.getD i ByteArray.empty:=RE _ z;simp only;generalize C:(d.take k).foldl (FJ (o.getD i ByteArray.empty)) o=f at *;repeat'(first|exact trivial|refine eS rfl ?_|refine AB ?_|refine rX b ?_ ?_|refine rC ?_ ?_<;>intro a<;>try(cases a;done))
     ·have M:=g.2;refine⟨a,?_,fun _=>a⟩;dsimp only[Ty.den]at *;omega
     ·refine⟨by assumption,?_⟩;simp only[AO];dsimp only[Ty.den]at *;omega
     ·exact eV
     ·have c:k<d.length:=by exact eV
      have e:=E c;rw[D]at a;have n:FJ (o.getD i ByteArray.empty) f (d.getD k d0)=f++[(d.getD k d0).1]:=by
       unfold FJ;rw[At (by rw[AT,OR];exact a)]
      rw[n]at e;refine⟨⟨k+1,by omega⟩,by simp only;omega,AC [(15,.nm 15)] rfl rfl ?_ ?_⟩
      ·simp only[e];first|exact eN|refine eM ?_
      ·simp only[e];first|exact eN|refine eM ?_
     ·exact eV
     ·have c:k<d.length:=by exact eV
      have e:=E c;rw[D]at a;have n:FJ (o.getD i ByteArray.empty) f (d.getD k d0)=f:=by
       unfold FJ;rw[As];rw[AT,OR];rintro⟨h1,w⟩;rw[a h1]at w;cases w
      rw[n]at e;refine⟨⟨k+1,by omega⟩,by simp only;omega,AC [(15,.nm 15)] rfl rfl ?_ ?_⟩
      ·simp only[e];first|exact eN|refine eM ?_
      ·simp only[e];first|exact eN|refine eM ?_
     ·exact eV
     ·have c:d.take k=d:=BY (by exact eV);rw[c]at C;rw[C]at B;have I:=g.1;have O:=g.2;refine⟨⟨(i+1,f),by simp only;omega,I,B⟩,by simp only;omega,AC [(15,.nm 15)] rfl rfl ?_ ?_⟩
      ·first|exact eN|refine eM ?_
      ·first|exact eN|refine eM ?_
   ·have H:o=Cg d d.length 0 [s]:=by
     rw[←r];cases A:d.length-i with
     | zero=>rfl
     | succ m =>
      show _=if i<o.length then _ else o
      rw[As (by exact eV)]
    rw[←H]at h1;refine AJ (ι:={j:Nat//j≤o.length}) (fun j=>⟨[(0,.p FC d),(5,.sr 15 T9 0 o.length),(8,.p B6 ((o.take j.1).foldl EW [])),(9,.p (.int .i64) (j.1:Int))],[(15,.arr 9 T9 o)]⟩) (fun j=>o.length-j.1) ⟨0,Is _⟩ (AC [(15,.nm 15)] rfl rfl ?_ ?_) (fun j=>?_)
    ·first|exact eN|refine eM ?_
    ·first|exact eN|refine eM ?_
     rfl
    ·obtain⟨j,L⟩:=j;have J:=fun h:j<o.length=>E1 EW o ByteArray.empty [] h;simp only;repeat'(first|exact trivial|refine eS rfl ?_|refine AB ?_|refine rX b ?_ ?_|refine rC ?_ ?_<;>intro a<;>try(cases a;done))
     ·refine⟨a,?_⟩;have:=XL (o.take j);have K:=AAt j o;unfold KM at this;dsimp only[Ty.den]at *;omega
     ·exact eV
     ·have t:j<o.length:=by exact eV
      have e:=J t;refine⟨⟨j+1,by omega⟩,by simp only;omega,AC [(15,.nm 15)] rfl rfl ?_ ?_⟩
      ·first|exact eN|refine eM ?_
      ·simp only[e];first|exact eN|refine eM ?_
     ·have t:o.take j=o:=BY (by exact eV);rw[t];exact fI b [.tmp 4] (by rw[h1];unfold KM;exact eR)
end
section
attribute [local go_sem] OO Yo lL Jt
def FK (d:List AH) (o:List ByteArray) (x:ByteArray):List ByteArray:=if 0≤Ap d x then EW o x else o
def BW (d:List AH) (l:List ByteArray):List ByteArray:=l.foldl (FK d) []
theorem Ju (d:List AH) (l:List ByteArray):(BW d l).length≤l.length:=by
 have key:∀(l o:List ByteArray),(l.foldl (FK d) o).length≤o.length+l.length:=by
  intro l;induction l with
  | nil=>intro o;simp
  | cons x l a =>
   intro o;have h1:=a (FK d o x);have b:(FK d o x).length≤o.length+1:=by
    unfold FK;split
    ·exact MJ o x
    ·omega
   simp only[Rp,Of];omega
 have:=key l [];simpa[BW] using this
def RF:Ae:={ ins:=[FC,B6],pre:=fun(_,l,_)=>List.length l≤100000,out:=fun(d,l,_)=>[.p B6 (BW d l)] }
attribute [local go_sem] RF
theorem fV:Ao Tryz.prog 154 RF:=by
 refine fK [0,1,4,5,6,10,19] Tryz.func154 Tryz.ntmps154 (AF ME (AF RA AG)) ?_;rintro w0 O0 ⟨d,l,u⟩ c-f;have f:l.length≤100000:=f;simp only[RF,AM];repeat'(first|exact trivial|refine eS rfl ?_|refine AB ?_|refine rX c ?_ ?_|refine rC ?_ ?_<;>intro a<;>try(cases a;done))
 refine AJ (ι:={k:Nat//k≤l.length}) (fun k=>⟨[(0,.p FC d),(1,.p B6 l),(5,.p B6 (BW d (l.take k.1))),(6,.p (.int .i64) (k.1:Int))],[]⟩) (fun k=>l.length-k.1) ⟨0,Is _⟩ (AC [] rfl rfl ?_ ?_) (fun k=>?_)
 ·first|exact eN|refine eM ?_
 ·first|exact eN|refine eM ?_
  rfl
 ·obtain⟨k,hk⟩:=k;have hn:=Ju d (l.take k);have g:=AAt k l;have hs:=fun h:k<l.length=>E1 (FK d) l ByteArray.empty [] h;simp only;repeat'(first|exact trivial|refine eS rfl ?_|refine AB ?_|refine rX c ?_ ?_|refine rC ?_ ?_<;>intro a<;>try(cases a;done))
  ·exact a
  ·exact⟨by assumption,by omega⟩
  ·exact eV
  ·have b:k<l.length:=by exact eV
   have e:BW d (l.take (k+1))=FK d (BW d (l.take k)) (l.getD k ByteArray.empty):=hs b;unfold FK at e;rw[At a]at e;refine⟨⟨k+1,by omega⟩,by simp only;omega,AC [] rfl rfl ?_ ?_⟩
   ·first|exact eN|refine eM ?_
   ·simp only[e];first|exact eN|refine eM ?_
  ·exact eV
  ·have b:k<l.length:=by exact eV
   have e:BW d (l.take (k+1))=FK d (BW d (l.take k)) (l.getD k ByteArray.empty):=hs b;unfold FK at e;rw[As (Int.not_le.2 a)]at e;refine⟨⟨k+1,by omega⟩,by simp only;omega,AC [] rfl rfl ?_ ?_⟩
   ·first|exact eN|refine eM ?_
   ·simp only[e];first|exact eN|refine eM ?_
  ·have b:l.take k=l:=BY (by exact eV);rw[b];exact fI c [.tmp 4]
def pP (d:List AH) (all:List ByteArray) (i:Nat) (k:Nat):Bool:=(k:Int)==(i:Int)||!AX (LE d (all.getD i ByteArray.empty)) (all.getD k ByteArray.empty)
def Pp (d:List AH) (all:List ByteArray) (i n:Nat):Bool:=(List.range n).all (pP d all i)
def Pq (d:List AH) (all:List ByteArray) (n:Nat):List ByteArray:=((List.range n).filter fun i=>Pp d all i all.length).map fun i=>all.getD i ByteArray.empty
def Ay (d:List AH) (l:List ByteArray):List ByteArray:=Pq d (BW d l) (BW d l).length
theorem tN (d:List AH) (all:List ByteArray) (n:Nat):Pq d all (n+1)=Pq d all n++if Pp d all n all.length=true then [all.getD n ByteArray.empty] else []:=by
 unfold Pq;rw[AAe,ABE,AAA]
 congr 1
 rw[AAr,ABT];split<;>rfl
theorem fW (d:List AH) (all:List ByteArray) (n:Nat):(Pq d all n).length≤n:=by
 unfold Pq;rw[f6];exact aT (AAC _ _) (by simp)
theorem lM (d:List AH) (all:List ByteArray) (i n:Nat):Pp d all i (n+1)=(Pp d all i n&&pP d all i n):=by
 unfold Pp;rw[AAe,ABy];simp
def ML:Ae:={ ins:=[FC,B6],pre:=fun(d,l,_)=>Pn d∧List.length d≤256∧List.length l≤100000,out:=fun(d,l,_)=>[.p B6 (Ay d l)] }
attribute [local go_sem] ML
theorem UX:Ao Tryz.prog 136 ML:=by
 refine fK [0,1,4,5,6,7,8,9,10,17,29,47] Tryz.func136 Tryz.ntmps136 (AF fV (AF A0v (AF G0 AG))) ?_;rintro w0 O0 ⟨d,l,u⟩ c-⟨n,f,g⟩;have f:d.length≤256:=f;have g:l.length≤100000:=g;have m:Ay d l=Pq d (BW d l) (BW d l).length:=rfl;have o:=Ju d l;simp only[ML,AM];repeat'(first|exact trivial|refine eS rfl ?_|refine AB ?_|refine rX c ?_ ?_|refine rC ?_ ?_<;>intro a<;>try(cases a;done))
 ·exact g
 ·rw[m];generalize BW d l=all at *;refine AJ (ι:={i:Nat//i≤all.length}) (fun i=>⟨[(0,.p FC d),(5,.sr 54 T9 0 (Pq d all i.1).length),(6,.p B6 all),(7,.p (.int .i64) (i.1:Int))],[(54,.arr 9 T9 (Pq d all i.1))]⟩) (fun i=>all.length-i.1) ⟨0,Is _⟩ (AC [(54,.nil)] rfl rfl ?_ ?_) (fun i=>?_)
  ·first|exact eN|refine eM ?_
   rfl
  ·first|exact eN|refine eM ?_
   rfl
  ·obtain⟨i,hi⟩:=i;have q:=fW d all i;have b:=tN d all i;simp only;repeat'(first|exact trivial|refine eS rfl ?_|refine AB ?_|refine rX c ?_ ?_|refine rC ?_ ?_<;>intro a<;>try(cases a;done))
   ·exact⟨a,n,f⟩
   ·have h:i<all.length:=by exact eV
    refine AJ (ι:={k:Nat//k≤all.length}) (fun k=>⟨[(0,.p FC d),(5,.sr 54 T9 0 (Pq d all i).length),(6,.p B6 all),(7,.p (.int .i64) (i:Int)),(8,.p B6 (LE d (all.getD i ByteArray.empty))),(9,.p .bool (Pp d all i k.1)),(10,.p (.int .i64) (k.1:Int))],[(54,.arr 9 T9 (Pq d all i))]⟩) (fun k=>all.length-k.1) ⟨0,Is _⟩ (AC [(54,.nm 54)] rfl rfl ?_ ?_) (fun k=>?_)
    ·first|exact eN|refine eM ?_
    ·first|exact eN|refine eM ?_
     rfl
    ·obtain⟨k,hk⟩:=k;have j:=lM d all i k;simp only;repeat'(first|exact trivial|refine eS rfl ?_|refine AB ?_|refine rX c ?_ ?_|refine rC ?_ ?_<;>intro a<;>try(cases a;done))
     ·exact fun _=>a
     ·exact eV
     ·have e:k<all.length:=by exact eV
      refine⟨⟨k+1,by omega⟩,by simp only;omega,AC [(54,.nm 54)] rfl rfl ?_ ?_⟩
      ·first|exact eN|refine eM ?_
      ·simp only[j];unfold pP;first|exact eN|refine eM ?_
     ·refine⟨by assumption,?_⟩;simp only[AO];omega
     ·exact eV
     ·have e:k=all.length:=by exact eV
      subst e;rw[a,At rfl]at b;refine⟨⟨i+1,by omega⟩,by simp only;omega,AC [(54,.nm 54)] rfl rfl ?_ ?_⟩
      ·simp only[b];first|exact eN|refine eM ?_
      ·simp only[b];first|exact eN|refine eM ?_
     ·exact eV
     ·have e:k=all.length:=by exact eV
      subst e;rw[a,As (by simp),AAa]at b;refine⟨⟨i+1,by omega⟩,by simp only;omega,AC [(54,.nm 54)] rfl rfl ?_ ?_⟩
      ·simp only[b];first|exact eN|refine eM ?_
      ·simp only[b];first|exact eN|refine eM ?_
   ·have h:i=all.length:=by exact eV
    subst h;refine Gy [54] ?_;exact fI c [.tmp 4]
end
section
attribute [local go_sem] LB
def tP (b:List Int) (x:Int):List Int:=b.set (x.tdiv 64).toNat (B7 .or .u64 (b.getD (x.tdiv 64).toNat 0) (Sc .u64 1 (x.tmod 64)))
def v7 (l:List Int):List Int:=l.foldl tP (List.replicate 64 0)
def okB (x:Int):Bool:=!(decide (x<0)||decide (4095<x))
def ofF (l:List Int):List Int×Int:=if l.all okB=true then (BK (v7 l),0) else ([],2)
theorem Pr (l:List Int):(v7 l).length=64:=by
 have key:∀(l b:List Int),(l.foldl tP b).length=b.length:=by
  intro l;induction l with
  | nil=>intro b;rfl
  | cons x l a =>
   intro b;rw[Rp,a];simp[tP]
 unfold v7;rw[key];simp
def ofS:Ae:={ ins:=[Kh],pre:=fun _=>True,out:=fun(l,_)=>[.p EV (ofF l).1,.p WA (ofF l).2] }
theorem A7Z:Ao Tryz.prog 132 ofS:=by
 refine fK [0,2,3,4,5,10,24] Tryz.func132 Tryz.ntmps132 (AF M7 AG) ?_;rintro w0 O0 ⟨l,u⟩ c ⟨⟨g,-⟩,-⟩ -;simp only[AO]at g;simp only[ofS,AM];repeat'(first|exact trivial|refine eS rfl ?_|refine AB ?_|refine rX c ?_ ?_|refine rC ?_ ?_<;>intro a<;>try(cases a;done))
 ·simp only[AO];omega
 ·refine AJ (ι:={k:Nat//k≤l.length∧(l.take k).all okB=true}) (fun k=>⟨[(0,.p Kh l),(4,.sr 6 Pk 0 (v7 (l.take k.1)).length),(5,.p (.int .i64) (k.1:Int))],[(6,.arr 155 Pk (v7 (l.take k.1)))]⟩) (fun k=>l.length-k.1) ⟨0,Is _,rfl⟩ (AC [(6,.nm 6)] rfl rfl ?_ ?_) (fun k=>?_)
  ·first|exact eN|refine eM ?_
   rfl
  ·first|exact eN|refine eM ?_
   rfl
  ·obtain⟨k,hk,hf⟩:=k;have i:=Pr (l.take k);have hs:∀h:k<l.length,v7 (l.take (k+1))=tP (v7 (l.take k)) (l.getD k 0):=fun h=>E1 tP l 0 _ h;simp only;repeat'(first|exact trivial|refine eS rfl ?_|refine AB ?_|refine rX c ?_ ?_|refine rC ?_ ?_<;>intro a<;>try(cases a;done))
   ·exact⟨a,fun _=>a⟩
   ·have b:k<l.length:=by exact eV
    have h1:ofF l=([],2):=by
     unfold ofF;rw[As];intro h;have:=GO.1 h _ (AD l 0 b);unfold okB at this;rw[OR,AAp,On,On]at this;rcases a with h|h
     ·exact this.1 h
     ·exact this.2 h
    exact fI c [.tmp 2,.tmp 3] (by rw[h1];exact eR)
   ·obtain⟨h0,h1⟩:=a;have d:Int.tdiv (l.getD k 0) 64=l.getD k 0 / 64:=AAu h0;have f:Int.tmod (l.getD k 0) 64=l.getD k 0 % 64:=ABl h0;rw[d,f,i];refine⟨?_,⟨by decide,?_,?_⟩,?_,⟨by decide,?_,?_⟩,⟨?_,?_⟩,?_,⟨by decide,?_,?_⟩,⟨?_,?_⟩,?_,?_,?_⟩<;>exact eV
   ·exact eV
   ·have b:k<l.length:=by exact eV
    have e:=hs b;refine⟨⟨k+1,by omega,?_⟩,by simp only;omega,AC [(6,.nm 6)] rfl rfl ?_ ?_⟩
    ·rw[Gc l 0 _ b,hf,ABV];unfold okB;rw[OR,AAp,On,On];exact⟨AAS.2 a.1,AAS.2 a.2⟩
    ·simp only[e];first|exact eN|refine eM ?_
     rfl
    ·simp only[e];first|exact eN|refine eM ?_
     rw[←e,Pr,Pr]
   ·have b:l.take k=l:=BY (by exact eV);rw[b]at hf ⊢;have h1:ofF l=(BK (v7 l),0):=by unfold ofF;rw[At hf]
    have j:=Pr l;refine Gy [6] ?_;repeat'(first|exact trivial|refine eS rfl ?_|refine AB ?_|refine rX c ?_ ?_|refine rC ?_ ?_<;>intro a<;>try(cases a;done))
    ·rw[j];decide
    ·exact fI c [.tmp 2,.tmp 3] (by rw[h1];exact eR)
end
section
attribute [local go_sem] UU Pl
def lN (l:List (List Int)) (b:List Int):Bool:=l.any fun x=>Hb x b
def A51:Ae:={ ins:=[Si,EV],pre:=fun _=>True,out:=fun(l,b,_)=>[.p .bool (lN l b)],lend:=true }
theorem A52:Ao Tryz.prog 133 A51:=by
 refine fK [0,1,4,5,9,17] Tryz.func133 Tryz.ntmps133 (AF pN AG) ?_;rintro w0 O0 ⟨l,n,u⟩ b ⟨⟨e,-⟩,-⟩ -;simp only[AO]at e;simp only[A51,AM];repeat'(first|exact trivial|refine eS rfl ?_|refine AB ?_|refine rX b ?_ ?_|refine rC ?_ ?_<;>intro a<;>try(cases a;done))
 refine AJ (ι:={k:Nat//k≤l.length∧(l.take k).any (fun x=>Hb x n)=false}) (fun k=>⟨[(0,.p Si l),(1,.p EV n),(5,.p (.int .i64) (k.1:Int))],[]⟩) (fun k=>l.length-k.1) ⟨0,by simp⟩ (AC [] rfl rfl ?_ ?_) (fun k=>?_)
 ·first|exact eN|refine eM ?_
 ·first|exact eN|refine eM ?_
 ·obtain⟨k,hk,c⟩:=k;repeat'(first|exact trivial|refine eS rfl ?_|refine AB ?_|refine rX b ?_ ?_|refine rC ?_ ?_<;>intro a<;>try(cases a;done))
  ·exact eV
  ·have d:k<l.length:=by exact eV
   have h1:lN l n=true:=Gz l [] _ d a;exact fI b [.tmp 4] (by rw[h1];exact eR)
  ·exact eV
  ·have d:k<l.length:=by exact eV
   refine⟨⟨k+1,by exact eV,?_⟩,by simp only;exact eV,AC [] rfl rfl ?_ ?_⟩
   ·rw[M6 l [] _ d,c];exact a
   ·first|exact eN|refine eM ?_
   ·first|exact eN|refine eM ?_
  ·have hk:l.take k=l:=BY (by exact eV);rw[hk]at c;have h1:lN l n=false:=c;exact fI b [.tmp 4] (by rw[h1];exact eR)
abbrev AQ:=ByteArray×List Int
abbrev c0:AQ:=(ByteArray.empty,[])
def Le (l:List AQ) (i j:Int):Bool:=FP (l.getD j.toNat c0).2 (l.getD i.toNat c0).2
def pQ:Ae:={ ins:=[KK,T3,T3],pre:=fun(l,i,j,_)=>((0:Int)≤i∧i<(List.length l:Int))∧((0:Int)≤j∧j<(List.length l:Int))∧(∀x∈(l:List AQ),x.2.length≤100000),out:=fun(l,i,j,_)=>[.p .bool (Le l i j)],lend:=true }
theorem pR:Ao Tryz.prog 103 pQ:=by
 refine fK [0,1,2,6] Tryz.func103 Tryz.ntmps103 (AF XJ AG) ?_;rintro w0 O0 ⟨l,i,j,u⟩ a-⟨hi,c,d⟩;simp only[pQ,AM];repeat'(first|exact trivial|refine eS rfl ?_|refine AB ?_|refine rX a ?_ ?_|refine rC ?_ ?_<;>intro b<;>try(cases b;done))
 ·exact⟨c,hi,d _ (AD (l:List AQ) c0 (by exact eV))⟩
 ·exact fI a [.tmp 6] (by unfold Le;exact eR)
end
section
attribute [local go_sem] UU
def MM (s:ByteArray):Nat→List AQ→Int
 | _,[]=>-1
 | k,x :: l=>if Aa x.1 s=true then (k:Int) else MM s (k+1) l
def BL (l:List AQ) (s:ByteArray):Int:=MM s 0 l
theorem XN (s:ByteArray) (l:List AQ) {k:Nat} (h:k<l.length):MM s k (l.drop k)=if Aa (l.getD k c0).1 s=true then (k:Int) else MM s (k+1) (l.drop (k+1)):=by
 rw[aS h];have e:l.getD k c0=l[k]:=by simp[AS,h]
 rw[e];rfl
def S8:Ae:={ ins:=[KK,T9],pre:=fun _=>True,out:=fun(l,s,_)=>[.p T3 (BL l s)],lend:=true }
theorem XO:Ao Tryz.prog 105 S8:=by
 refine fK [0,1,4,5,9,18] Tryz.func105 Tryz.ntmps105 AG ?_;rintro w0 O0 ⟨l,s,u⟩ c ⟨⟨d,-⟩,-⟩ -;simp only[AO]at d;simp only[S8,AM];repeat'(first|exact trivial|refine eS rfl ?_|refine AB ?_|refine rX c ?_ ?_|refine rC ?_ ?_<;>intro a<;>try(cases a;done))
 refine AJ (ι:={k:Nat//k≤l.length∧MM s k (l.drop k)=BL l s}) (fun k=>⟨[(0,.p KK l),(1,.p T9 s),(5,.p (.int .i64) (k.1:Int))],[]⟩) (fun k=>l.length-k.1) ⟨0,Is _,rfl⟩ (AC [] rfl rfl ?_ ?_) (fun k=>?_)
 ·first|exact eN|refine eM ?_
 ·first|exact eN|refine eM ?_
 ·obtain⟨k,hk,hf⟩:=k;simp only;repeat'(first|exact trivial|refine eS rfl ?_|refine AB ?_|refine rX c ?_ ?_|refine rC ?_ ?_<;>intro a<;>try(cases a;done))
  ·exact a
  ·have b:k<l.length:=by exact eV
   rw[XN s l b,At a]at hf;exact fI c [.tmp 4] (by rw[←hf];exact eR)
  ·exact eV
  ·have b:k<l.length:=by exact eV
   rw[XN s l b,As (by rw[a];simp)]at hf;refine⟨⟨k+1,by omega,hf⟩,by simp only;omega,AC [] rfl rfl ?_ ?_⟩
   ·first|exact eN|refine eM ?_
   ·first|exact eN|refine eM ?_
  ·have b:l.drop k=[]:=IF (by exact eV);rw[b]at hf;exact fI c [.tmp 4] (by rw[←hf];first|exact eR|refine Ym ?_;rfl)
end
section
attribute [local go_sem] UU LB
def Ps (s:List Int):Nat→List AQ→Int
 | _,[]=>-1
 | k,x :: l=>if Hb x.2 s=true then (k:Int) else Ps s (k+1) l
def HP (l:List AQ) (b:List Int):Int:=Ps (BK b) 0 l
theorem UY (s:List Int) (l:List AQ) {k:Nat} (h:k<l.length):Ps s k (l.drop k)=if Hb (l.getD k c0).2 s=true then (k:Int) else Ps s (k+1) (l.drop (k+1)):=by
 rw[aS h];have e:l.getD k c0=l[k]:=by simp[AS,h]
 rw[e];rfl
def lO:Ae:={ ins:=[KK,EV],pre:=fun(_,b,_)=>List.length b≤100000,out:=fun(l,b,_)=>[.p T3 (HP l b)],lend:=true }
theorem A0x:Ao Tryz.prog 96 lO:=by
 refine fK [0,1,4,5,6,12,21] Tryz.func96 Tryz.ntmps96 (AF M7 (AF pN AG)) ?_;rintro w0 O0 ⟨l,b,u⟩ d ⟨⟨g,-⟩,-⟩ e;simp only[AO]at g;simp only[lO,AM];repeat'(first|exact trivial|refine eS rfl ?_|refine AB ?_|refine rX d ?_ ?_|refine rC ?_ ?_<;>intro a<;>try(cases a;done))
 ·exact e
 ·have f:HP l b=Ps (BK b) 0 l:=rfl;rw[f];generalize BK b=s at *;refine AJ (ι:={k:Nat//k≤l.length∧Ps s k (l.drop k)=Ps s 0 l}) (fun k=>⟨[(0,.p KK l),(5,.p EV s),(6,.p (.int .i64) (k.1:Int))],[]⟩) (fun k=>l.length-k.1) ⟨0,Is _,rfl⟩ (AC [] rfl rfl ?_ ?_) (fun k=>?_)
  ·first|exact eN|refine eM ?_
  ·first|exact eN|refine eM ?_
  ·obtain⟨k,hk,hf⟩:=k;simp only;repeat'(first|exact trivial|refine eS rfl ?_|refine AB ?_|refine rX d ?_ ?_|refine rC ?_ ?_<;>intro a<;>try(cases a;done))
   ·exact a
   ·have c:k<l.length:=by exact eV
    rw[UY s l c,At a]at hf;exact fI d [.tmp 4] (by rw[←hf];exact eR)
   ·exact eV
   ·have c:k<l.length:=by exact eV
    rw[UY s l c,As (by rw[a];simp)]at hf;refine⟨⟨k+1,by omega,hf⟩,by simp only;omega,AC [] rfl rfl ?_ ?_⟩
    ·first|exact eN|refine eM ?_
    ·first|exact eN|refine eM ?_
   ·have c:l.drop k=[]:=IF (by exact eV);rw[c]at hf;exact fI d [.tmp 4] (by rw[←hf];first|exact eR|refine Ym ?_;rfl)
end
section
attribute [local go_sem] UU
def fX (s:ByteArray):List (ByteArray×ByteArray)→ByteArray×Bool
 | []=>(ByteArray.empty,false)
 | x :: l=>if Aa x.1 s=true then (x.2,true) else fX s l
def DG (x:AH) (s:ByteArray):ByteArray×Bool:=fX s x.2.2
theorem XP (s:ByteArray) (l:List (ByteArray×ByteArray)) {k:Nat} (h:k<l.length):fX s (l.drop k)=if Aa (l.getD k (ByteArray.empty,ByteArray.empty)).1 s=true then ((l.getD k (ByteArray.empty,ByteArray.empty)).2,true) else fX s (l.drop (k+1)):=by
 rw[aS h];have e:l.getD k (ByteArray.empty,ByteArray.empty)=l[k]:=by simp[AS,h]
 rw[e];rfl
def Yx:Ae:={ ins:=[tC,T9],pre:=fun _=>True,out:=fun(x,s,_)=>[.p T9 (DG x s).1,.p .bool (DG x s).2],lend:=true }
theorem fY:Ao Tryz.prog 123 Yx:=by
 refine fK [0,1,2,4,5,6,11,21] Tryz.func123 Tryz.ntmps123 AG ?_;rintro w0 O0 ⟨⟨nm,sup,a⟩,s,u⟩ d ⟨⟨-,-,f,-⟩,-⟩ -;simp only[AO]at f;simp only[Yx,AM];repeat'(first|exact trivial|refine eS rfl ?_|refine AB ?_|refine rX d ?_ ?_|refine rC ?_ ?_<;>intro b<;>try(cases b;done))
 have e:({ data:=#[] }:ByteArray).size≤AO:=by decide
 rw[At e];refine AJ (ι:={k:Nat//k≤a.length∧fX s (a.drop k)=DG (nm,sup,a) s}) (fun k=>⟨[(1,.p T9 s),(2,.bp 2 [] 0),(6,.p (.int .i64) (k.1:Int))],[(2,.box 111 true [.p T9 nm,.p B6 sup,.p aX a])]⟩) (fun k=>a.length-k.1) ⟨0,Is _,rfl⟩ (AC [(2,.nm 2)] rfl rfl ?_ ?_) (fun k=>?_)
 ·first|exact eN|refine eM ?_
 ·first|exact eN|refine eM ?_
 ·obtain⟨k,hk,hf⟩:=k;simp only;repeat'(first|exact trivial|refine eS rfl ?_|refine AB ?_|refine rX d ?_ ?_|refine rC ?_ ?_<;>intro b<;>try(cases b;done))
  ·exact b
  ·assumption
  ·have c:k<a.length:=by exact eV
   rw[XP s a c,At b]at hf;exact fI d [.tmp 4,.tmp 5] (by rw[←hf];exact eR)
  ·exact eV
  ·have c:k<a.length:=by exact eV
   rw[XP s a c,As (by rw[b];simp)]at hf;refine⟨⟨k+1,by omega,hf⟩,by simp only;omega,AC [(2,.nm 2)] rfl rfl ?_ ?_⟩
   ·first|exact eN|refine eM ?_
   ·first|exact eN|refine eM ?_
  ·have c:a.drop k=[]:=IF (by exact eV);rw[c]at hf;rw[At e];exact fI d [.tmp 4,.tmp 5] (by rw[←hf];first|exact eR|refine Ym ?_;exact⟨rfl,rfl⟩)
end
section
attribute [local go_sem] lK
def F7 (a b:AQ):Bool:=decide (((IW b.2).length:Int)<((IW a.2).length:Int))||((IW a.2).length:Int)==((IW b.2).length:Int)&&HT a.1 b.1
def Yy:Ae:={ ins:=[Yn,Yn],pre:=fun(a,b,_)=>List.length (a:AQ).2≤100000∧List.length (b:AQ).2≤100000,out:=fun(a,b,_)=>[.p .bool (F7 a b)],lend:=true }
theorem tQ:Ao Tryz.prog 102 Yy:=by
 refine fK [0,1,2,3,4,5,6] Tryz.func102 Tryz.ntmps102 (AF A0r AG) ?_;rintro w0 O0 ⟨⟨d,ac⟩,⟨f,e⟩,u⟩ a-⟨ha,c⟩;simp only[Yy,AM];repeat'(first|exact trivial|refine eS rfl ?_|refine AB ?_|refine rX a ?_ ?_|refine rC ?_ ?_<;>intro b<;>try(cases b;done))
 ·exact ha
 ·exact c
 ·exact fI a [.tmp 4] (by unfold F7;exact eR)
end
section
attribute [local go_sem] Yw Jt ofS
def OT (low all:List ByteArray) (n:Nat):List Int:=((List.range n).filter fun(i:Nat)=>AX low (all.getD i ByteArray.empty)).map fun(i:Nat)=>(i:Int)
theorem tR (low all:List ByteArray) (n:Nat):OT low all (n+1)=OT low all n++if AX low (all.getD n ByteArray.empty)=true then [(n:Int)] else []:=by
 unfold OT;rw[AAe,ABE,AAA]
 congr 1
 rw[AAr,ABT];split<;>rfl
theorem A0y (low all:List ByteArray) (n:Nat):(OT low all n).length≤n:=by
 unfold OT;rw[f6];exact aT (AAC _ _) (by simp)
def Eq (d:List AH) (all:List ByteArray) (s:ByteArray):List Int:=(ofF (OT (Ci d s) all all.length)).1
def A0z:Ae:={ ins:=[FC,B6,T9],pre:=fun(d,l,_,_)=>List.length d≤256∧List.length l≤100000,out:=fun(d,l,s,_)=>[.p EV (Eq d l s)] }
theorem A38:Ao Tryz.prog 99 A0z:=by
 refine fK [0,1,2,6,7,8,9,10,18,26] Tryz.func99 Tryz.ntmps99 (AF A0w (AF G0 (AF A7Z AG))) ?_;rintro w0 O0 ⟨d,l,s,u⟩ b-⟨g,e⟩;have e:l.length≤100000:=e;have f:Eq d l s=(ofF (OT (Ci d s) l l.length)).1:=rfl;simp only[A0z,AM];repeat'(first|exact trivial|refine eS rfl ?_|refine AB ?_|refine rX b ?_ ?_|refine rC ?_ ?_<;>intro a<;>try(cases a;done))
 ·exact g
 ·rw[f];generalize Ci d s=low at *;refine AJ (ι:={n:Nat//n≤l.length}) (fun n=>⟨[(0,.p FC d),(1,.p B6 l),(2,.p T9 s),(7,.p B6 low),(8,.sr 30 T3 0 (OT low l n.1).length),(9,.p (.int .i64) (n.1:Int))],[(30,.arr 3 T3 (OT low l n.1))]⟩) (fun n=>l.length-n.1) ⟨0,Is _⟩ (AC [(30,.nil)] rfl rfl ?_ ?_) (fun n=>?_)
  ·first|exact eN|refine eM ?_
   rfl
  ·first|exact eN|refine eM ?_
   rfl
  ·obtain⟨n,hn⟩:=n;have h:=A0y low l n;have hs:=tR low l n;simp only;repeat'(first|exact trivial|refine eS rfl ?_|refine AB ?_|refine rX b ?_ ?_|refine rC ?_ ?_<;>intro a<;>try(cases a;done))
   ·exact a
   ·rw[a,At rfl]at hs;simp only[AO];dsimp only[Ty.den]at *;omega
   ·exact eV
   ·have c:n<l.length:=by exact eV
    rw[a,At rfl]at hs;refine⟨⟨n+1,by omega⟩,by simp only;omega,AC [(30,.nm 30)] rfl rfl ?_ ?_⟩
    ·simp only[hs];first|exact eN|refine eM ?_
    ·simp only[hs];first|exact eN|refine eM ?_
   ·exact eV
   ·have c:n<l.length:=by exact eV
    rw[a,As (by simp),AAa]at hs;refine⟨⟨n+1,by omega⟩,by simp only;omega,AC [(30,.nm 30)] rfl rfl ?_ ?_⟩
    ·simp only[hs];first|exact eN|refine eM ?_
    ·simp only[hs];first|exact eN|refine eM ?_
   ·have c:n=l.length:=by exact eV
    subst c;refine Gy [30] ?_;repeat'(first|exact trivial|refine eS rfl ?_|refine AB ?_|refine rX b ?_ ?_|refine rC ?_ ?_<;>intro a<;>try(cases a;done))
    exact fI b [.tmp 6]
end
section
attribute [local go_sem] Yo
def Pt (o:List ByteArray) (f:ByteArray×ByteArray):List ByteArray:=EW o f.1
def RG (o:List ByteArray) (x:AH):List ByteArray:=x.2.2.foldl Pt o
def BM (d:List AH):List ByteArray:=d.foldl RG []
theorem XQ (l:List (ByteArray×ByteArray)):∀o:List ByteArray,(l.foldl Pt o).length≤o.length+l.length:=by
 induction l with
 | nil=>intro o;simp
 | cons x l a =>
  intro o;have h1:=a (Pt o x);have b:(Pt o x).length≤o.length+1:=MJ o x.1;simp only[Rp,Of];omega
theorem lQ {d:List AH} (h:∀x∈d,x.2.2.length≤256):∀(l:List AH),(∀x∈l,x∈d)→∀o:List ByteArray,(l.foldl RG o).length≤o.length+256*l.length:=by
 intro l;induction l with
 | nil=>intro _ o;simp
 | cons x l c =>
  intro a o;have h1:=c (fun y b=>a y (by simp[b])) (RG o x);have e:=XQ x.2.2 o;have f:=h x (a x (by simp));have g:(RG o x).length=(x.2.2.foldl Pt o).length:=rfl;simp only[Rp,Of];omega
def UZ:Ae:={ ins:=[FC],pre:=fun(d,_)=>List.length d≤256∧(∀x∈(d:List AH),x.2.2.length≤256),out:=fun(d,_)=>[.p B6 (BM d)] }
theorem Ua:Ao Tryz.prog 94 UZ:=by
 refine fK [0,2,3,4,5,9,19] Tryz.func94 Tryz.ntmps94 (AF RA AG) ?_;rintro w0 O0 ⟨d,u⟩ c-⟨f,m⟩;have f:d.length≤256:=f;simp only[UZ,AM];repeat'(first|exact trivial|refine eS rfl ?_|refine AB ?_|refine rX c ?_ ?_|refine rC ?_ ?_<;>intro a<;>try(cases a;done))
 refine AJ (ι:={i:Nat//i≤d.length}) (fun i=>⟨[(0,.p FC d),(3,.p B6 (BM (d.take i.1))),(4,.p (.int .i64) (i.1:Int))],[]⟩) (fun i=>d.length-i.1) ⟨0,Is _⟩ (AC [] rfl rfl ?_ ?_) (fun i=>?_)
 ·first|exact eN|refine eM ?_
 ·first|exact eN|refine eM ?_
  rfl
 ·obtain⟨i,hi⟩:=i;have l:=lQ m (d.take i) (fun x h=>AA9 h) [];have t:=AAt i d;have hs:=fun h:i<d.length=>E1 RG d d0 [] h;have g:∀e,BM e=e.foldl RG []:=fun _=>rfl;simp only;repeat'(first|exact trivial|refine eS rfl ?_|refine AB ?_|refine rX c ?_ ?_|refine rC ?_ ?_<;>intro a<;>try(cases a;done))
  ·have j:i<d.length:=by exact eV
   have v:=m _ (AD d d0 j);have hs:=hs j;rw[←g,←g]at hs;rw[←g]at l;generalize BM (d.take i)=o at *;refine AJ (ι:={k:Nat//k≤(d.getD i d0).2.2.length}) (fun k=>⟨[(0,.p FC d),(3,.p B6 (((d.getD i d0).2.2.take k.1).foldl Pt o)),(4,.p (.int .i64) (i:Int)),(5,.p (.int .i64) (k.1:Int))],[]⟩) (fun k=>(d.getD i d0).2.2.length-k.1) ⟨0,Is _⟩ (AC [] rfl rfl ?_ ?_) (fun k=>?_)
   ·first|exact eN|refine eM ?_
   ·first|exact eN|refine eM ?_
    rfl
   ·obtain⟨k,hk⟩:=k;have r:k≤(d.getD i d0).2.2.length:=hk;have q:=XQ ((d.getD i d0).2.2.take k) o;have s:=AAt k (d.getD i d0).2.2;have n:=fun h:k<(d.getD i d0).2.2.length=>E1 Pt (d.getD i d0).2.2 (ByteArray.empty,ByteArray.empty) o h;simp only;repeat'(first|exact trivial|refine eS rfl ?_|refine AB ?_|refine rX c ?_ ?_|refine rC ?_ ?_<;>intro a<;>try(cases a;done))
    ·assumption
    ·refine⟨by assumption,a,?_⟩;simp only[AAN]at l;dsimp only[Ty.den]at *;omega
    ·have h1:(k:Int)<((d.getD i d0).2.2.length:Int):=a;exact eV
    ·have b:k<(d.getD i d0).2.2.length:=If.1 a;have e:=n b;refine⟨⟨k+1,b⟩,by simp only;omega,AC [] rfl rfl ?_ ?_⟩
     ·first|exact eN|refine eM ?_
     ·simp only[e];unfold Pt;first|exact eN|refine eM ?_
    ·have:=f;exact eV
    ·have b:(d.getD i d0).2.2.take k=(d.getD i d0).2.2:=BY (gO.1 a);have e:BM (d.take (i+1))=((d.getD i d0).2.2.take k).foldl Pt o:=by rw[b];exact hs
     refine⟨⟨i+1,j⟩,by simp only;omega,AC [] rfl rfl ?_ ?_⟩
     ·first|exact eN|refine eM ?_
     ·simp only[e];first|exact eN|refine eM ?_
  ·have b:d.take i=d:=BY (by exact eV);rw[b];exact fI c [.tmp 2]
end
theorem XR {d:List AH} {l:List ByteArray}:∀ {r:List ByteArray} {k:Nat},Sj d l k r=0→∀s∈r,0≤Ap d s
 | [],_,_,s,hs=>by cases hs
 | x :: r,k,h,s,hs=>by
  simp only[Sj]at h;split at h
  ·cases h
  ·rename_i h1;split at h
   ·cases h
   ·rcases By.1 hs with rfl|hs
    ·omega
    ·exact XR h s hs
theorem Pu {d:List AH}:∀ {l:List AH},LC d l=0→∀x∈l,∀s∈x.2.1,0≤Ap d s
 | [],_,x,a=>by cases a
 | y :: l,h,x,a=>by
  simp only[LC]at h;split at h
  ·rename_i h1;exact absurd h h1
  ·rename_i h1;rcases By.1 a with rfl|a
   ·exact XR (Do h1)
   ·exact Pu h x a
theorem A0A {d:List AH} (h:LD d=0):Pn d:=Pu h
theorem Aw {d:List AH} (h:A4 d=0):Pn d∧d.length≤256∧Ia d=1∧Cf d=0∧d.length≤(Bd d).length:=by
 unfold A4 at h;split at h
 ·rename_i h1;exact absurd h h1
 ·rename_i h1;split at h
  ·rename_i a;exact absurd h a
  ·rename_i a;split at h
   ·rename_i b;exact absurd h b
   ·rename_i b;split at h
    ·cases h
    ·rename_i c;split at h
     ·cases h
     ·rename_i e;exact⟨A0A (Do b),SG (Do h1),Do c,Do a,by omega⟩
section
attribute [local go_sem] A51 A0n
def Gd (l:List (List Int)) (i k:Nat):List (List Int) :=
 if (decide (0<((Ed (l.getD i []) (l.getD k [])).length:Int))&&!lN l (Ed (l.getD i []) (l.getD k [])))=true then l++[Ed (l.getD i []) (l.getD k [])] else l
def Ge (i:Nat):Nat→Nat→List (List Int)→List (List Int)
 | 0,_,l=>l
 | n+1,k,l=>if l.length≤256 then Ge i n (k+1) (Gd l i k) else l
def Ic:Nat→Nat→List (List Int)→List (List Int)
 | 0,_,l=>l
 | n+1,i,l=>if i<l.length∧l.length≤256 then Ic n (i+1) (Ge i i 0 l) else l
def Au (c:List (List Int)):List (List Int):=Ic 257 0 c
theorem fZ (a b:List Int):(Ed a b).length≤a.length:=by
 unfold Ed BK;have:=Ep .and a b a.length;rw[OS];omega
structure A4j (l:List (List Int)):Prop where
 len:l.length≤257
 wid:∀c∈l,c.length≤64
theorem MN {l:List (List Int)} (h:∀c∈l,c.length≤64) (k:Nat):(l.getD k []).length≤64:=by
 rw[AS];cases hh:l[k]? with
 | none=>simp
 | some x=>exact h x (AAf hh)
theorem f2 {l:List (List Int)} (h:∀c∈l,c.length≤64) (i k:Nat):∀c∈Gd l i k,c.length≤64:=by
 unfold Gd;split
 ·intro c a;rcases OF.1 a with a|a
  ·exact h c a
  ·have:c=Ed (l.getD i []) (l.getD k []):=by simpa using a
   rw[this];exact aT (fZ _ _) (MN h i)
 ·exact h
theorem A0B (l:List (List Int)) (i k:Nat):l.length≤(Gd l i k).length∧(Gd l i k).length≤l.length+1:=by
 unfold Gd;split
 ·simp
 ·exact⟨No _,Nat.le_succ _⟩
def Yz:Ae:={ ins:=[Si],pre:=fun(c,_)=>List.length c≤256∧∀x∈(c:List (List Int)),x.length≤64,out:=fun(c,_)=>[.p Si (Au c)] }
theorem tS:Ao Tryz.prog 100 Yz:=by
 refine fK [0,2,3,4,5,6,18,28,48] Tryz.func100 Tryz.ntmps100 (AF A0o (AF A52 AG)) ?_;rintro w0 O0 ⟨c,u⟩ d-⟨n,t⟩;have n:c.length≤256:=n;simp only[Yz,AM];repeat'(first|exact trivial|refine eS rfl ?_|refine AB ?_|refine rX d ?_ ?_|refine rC ?_ ?_<;>intro a<;>try(cases a;done))
 ·simp only[AO];dsimp only[Ty.den]at *;omega
 ·refine AJ (ι:={x:Nat×List (List Int)//x.1≤256∧A4j x.2∧Ic (257-x.1) x.1 x.2=Au c}) (fun x=>⟨[(3,.sr 7 EV 0 x.1.2.length),(4,.p (.int .i64) (x.1.1:Int))],[(7,.arr 81 EV x.1.2)]⟩) (fun x=>257-x.1.1) ⟨(0,c),by simp,⟨by simp only;omega,t⟩,rfl⟩ (AC [(7,.nm 7)] rfl rfl ?_ ?_) (fun x=>?_)
  ·first|exact eN|refine eM ?_
  ·first|exact eN|refine eM ?_
  ·obtain⟨⟨i,l⟩,hi,⟨q,s⟩,f⟩:=x;simp only at hi q s f;simp only;repeat'(first|exact trivial|refine eS rfl ?_|refine AB ?_|refine rX d ?_ ?_|refine rC ?_ ?_<;>intro a<;>try(cases a;done))
   ·have w:i<l.length:=by omega
    have z:l.length≤256:=by omega
    have o:Ic (256-i) (i+1) (Ge i i 0 l)=Au c:=by
     have e:257-i=(256-i)+1:=by omega
     rw[←f,e];show _=if i<l.length∧l.length≤256 then Ic (256-i) (i+1) (Ge i i 0 l) else l
     rw[At ⟨w,z⟩]
    refine AJ (ι:={y:Nat×List (List Int)//y.1≤i∧A4j y.2∧l.length≤y.2.length∧Ge i (i-y.1) y.1 y.2=Ge i i 0 l}) (fun y=>⟨[(3,.sr 7 EV 0 y.1.2.length),(4,.p (.int .i64) (i:Int)),(5,.p (.int .i64) (y.1.1:Int))],[(7,.arr 81 EV y.1.2)]⟩) (fun y=>i-y.1.1) ⟨(0,l),by simp,⟨q,s⟩,No _,rfl⟩ (AC [(7,.nm 7)] rfl rfl ?_ ?_) (fun y=>?_)
    ·first|exact eN|refine eM ?_
    ·first|exact eN|refine eM ?_
    ·obtain⟨⟨k,m⟩,hk,⟨g,b⟩,r,hf⟩:=y;simp only at hk g b r hf;simp only;repeat'(first|exact trivial|refine eS rfl ?_|refine AB ?_|refine rX d ?_ ?_|refine rC ?_ ?_<;>intro a<;>try(cases a;done))
     ·exact⟨by exact eV,by exact eV,aT (MN b i) (by decide)⟩
     ·simp only[AO];omega
     ·omega
     ·have e:Gd m i k=m++[Ed (m.getD i []) (m.getD k [])]:=by
       unfold Gd;rw[At];rw[AT,DO,OR];exact a
      have C:=f2 b i k;have D:=A0B m i k;refine⟨⟨(k+1,Gd m i k),by simp only;omega,⟨by simp only;omega,C⟩,by simp only;omega,?_⟩,by simp only;omega,AC [(7,.nm 7)] rfl rfl ?_ ?_⟩
      ·simp only;rw[←hf,show i-k=(i-(k+1))+1 by omega];show _=if m.length≤256 then Ge i (i-(k+1)) (k+1) (Gd m i k) else m
       rw[At (by omega)]
      ·simp only[e];first|exact eN|refine eM ?_
      ·simp only[e];first|exact eN|refine eM ?_
     ·omega
     ·have e:Gd m i k=m:=by
       unfold Gd;rw[As];rw[AT,DO,OR];intro h;rw[a h.1]at h;exact absurd h.2 (by simp)
      refine⟨⟨(k+1,m),by simp only;omega,⟨g,b⟩,r,?_⟩,by simp only;omega,AC [(7,.nm 7)] rfl rfl ?_ ?_⟩
      ·simp only;rw[←hf,show i-k=(i-(k+1))+1 by omega];show _=if m.length≤256 then Ge i (i-(k+1)) (k+1) (Gd m i k) else m
       rw[At (by omega),e]
      ·first|exact eN|refine eM ?_
      ·first|exact eN|refine eM ?_
     ·omega
     ·have B:m=Ge i i 0 l:=by
       rw[←hf];cases A:i-k with
       | zero=>rfl
       | succ j =>
        show _=if m.length≤256 then _ else m
        rw[As (by omega)]
      rw[←B]at o;refine⟨⟨(i+1,m),by simp only;omega,⟨g,b⟩,?_⟩,by simp only;omega,AC [(7,.nm 7)] rfl rfl ?_ ?_⟩
      ·simp only;rw[show 257-(i+1)=256-i by omega];exact o
      ·first|exact eN|refine eM ?_
      ·first|exact eN|refine eM ?_
   ·have v:l=Au c:=by
     rw[←f];cases A:257-i with
     | zero=>rfl
     | succ m =>
      show _=if i<l.length∧l.length≤256 then _ else l
      rw[As (by omega)]
    rw[←v];refine Gy [7] ?_;exact fI d [.tmp 2]
theorem cs0 {α:Type} (x y:α):(if ({ data:=#[] }:ByteArray).size≤AO then x else y)=x:=At (by show 0≤AO;decide)
theorem cs1 {α:Type} (a:UInt8) (x y:α):(if ({ data:=#[a] }:ByteArray).size≤AO then x else y)=x:=At (by show 1≤AO;decide)
theorem cs2 {α:Type} (a b:UInt8) (x y:α):(if ({ data:=#[a,b] }:ByteArray).size≤AO then x else y)=x:=At (by show 2≤AO;decide)
theorem cs3 {α:Type} (a b c:UInt8) (x y:α):(if ({ data:=#[a,b,c] }:ByteArray).size≤AO then x else y)=x:=At (by show 3≤AO;decide)
theorem cs4 {α:Type} (a b c d:UInt8) (x y:α):(if ({ data:=#[a,b,c,d] }:ByteArray).size≤AO then x else y)=x:=At (by show 4≤AO;decide)
theorem cs5 {α:Type} (a b c d e:UInt8) (x y:α):(if ({ data:=#[a,b,c,d,e] }:ByteArray).size≤AO then x else y)=x:=At (by show 5≤AO;decide)
theorem cs6 {α:Type} (a b c d e f:UInt8) (x y:α):(if ({ data:=#[a,b,c,d,e,f] }:ByteArray).size≤AO then x else y)=x:=At (by show 6≤AO;decide)
theorem cs7 {α:Type} (a b c d e f g:UInt8) (x y:α):(if ({ data:=#[a,b,c,d,e,f,g] }:ByteArray).size≤AO then x else y)=x:=At (by show 7≤AO;decide)
theorem cs8 {α:Type} (a b c d e f g h:UInt8) (x y:α):(if ({ data:=#[a,b,c,d,e,f,g,h] }:ByteArray).size≤AO then x else y)=x:=At (by show 8≤AO;decide)
end
def A9 (b:List Int) (i:Nat):Bool:=(b.getD (i / 64) 0).toNat.testBit (i % 64)
def U64 (x:Int):Prop:=0≤x∧x<18446744073709551616
theorem Fk {x:Int} (h:U64 x):(BitVec.ofInt 64 x).toNat=x.toNat:=by
 rw[BitVec.toNat_ofInt];have h1:=h.1;have a:=h.2;rw[Int.emod_eq_of_lt h1 (by simpa using a)]
theorem Pv {n:Nat} (h:n<18446744073709551616):IntKind.u64.wrap (n:Int)=n:=Ku (by rw[Ho];omega)
theorem A39 {x y:Int} (a:U64 x) (b:U64 y):B7 .or .u64 x y=((x.toNat ||| y.toNat:Nat):Int):=by
 have h1:(BitVec.ofInt IntKind.u64.bits x ||| BitVec.ofInt IntKind.u64.bits y).toNat=x.toNat ||| y.toNat:=by
  rw[BitVec.toNat_or];show (BitVec.ofInt 64 x).toNat ||| (BitVec.ofInt 64 y).toNat=_
  rw[Fk a,Fk b]
 unfold B7;simp only;rw[h1];have e:(18446744073709551616:Nat)=2 ^ 64:=by decide
 refine Pv ?_;rw[e];refine Nat.or_lt_two_pow ?_ ?_
 ·have:=a.2;have:=a.1;omega
 ·have:=b.2;have:=b.1;omega
theorem Id {x y:Int} (a:U64 x) (b:U64 y):B7 .and .u64 x y=((x.toNat &&& y.toNat:Nat):Int):=by
 have h1:(BitVec.ofInt IntKind.u64.bits x &&& BitVec.ofInt IntKind.u64.bits y).toNat=x.toNat &&& y.toNat:=by
  rw[BitVec.toNat_and];show (BitVec.ofInt 64 x).toNat &&& (BitVec.ofInt 64 y).toNat=_;rw[Fk a,Fk b]
 unfold B7;simp only;rw[h1];refine Pv (ACl ACg ?_);have:=a.2;have:=a.1;omega
theorem RH {x y:Int}:B7 .andNot .u64 x y=((BitVec.ofInt 64 x &&& ~~~BitVec.ofInt 64 y).toNat:Int):=by
 show IntKind.u64.wrap ((BitVec.ofInt 64 x &&& ~~~BitVec.ofInt 64 y).toNat:Int)=_;exact Pv (BitVec.isLt _)
theorem SH {x y:Int} (d:U64 x) (e:U64 y) (h:B7 .andNot .u64 x y=0) {r:Nat} (c:r<64) (b:x.toNat.testBit r=true):y.toNat.testBit r=true:=by
 rw[RH]at h;have h1:(BitVec.ofInt 64 x &&& ~~~BitVec.ofInt 64 y).toNat=0:=by omega
 have a:(BitVec.ofInt 64 x &&& ~~~BitVec.ofInt 64 y).toNat.testBit r=false:=by rw[h1];exact Nat.zero_testBit r
 rw[ABu,BitVec.getLsbD_and,BitVec.getLsbD_not,←ABu,←ABu,Fk d,Fk e,b]at a;simpa[c] using a
theorem SI {x:Int}:B7 .andNot .u64 x x=0:=by
 rw[RH];simp
theorem OU {b:List Int}:∀ {n:Nat},∀k,Ca b n≤k→k<n→b.getD k 0=0
 | 0,k,_,h=>by omega
 | n+1,k,h1,c=>by
  unfold Ca at h1;split at h1
  ·rename_i a;by_cases hk:k=n
   ·rw[hk];exact a
   ·exact OU k h1 (by omega)
  ·omega
theorem Pw (b:List Int) (k:Nat):(BK b).getD k 0=b.getD k 0:=by
 unfold BK;by_cases h:k<Ca b b.length
 ·simp[AS,oN,h]
 ·have h1:(List.take (Ca b b.length) b).getD k 0=0:=by
   rw[AS,oN,As h];rfl
  rw[h1];by_cases a:k<b.length
  ·exact(OU k (by omega) a).symm
  ·rw[AS,iN (by omega)];rfl
theorem OV (b:List Int) (i:Nat):A9 (BK b) i=A9 b i:=by unfold A9;rw[Pw]
def Ie (b:List Int):Prop:=∀x∈b,U64 x
theorem BF {b:List Int} (h:Ie b) (k:Nat):U64 (b.getD k 0):=by
 rw[AS];cases hh:b[k]? with
 | none=>exact⟨by simp,by simp⟩
 | some x=>exact h x (AAf hh)
theorem OW {b:List Int} (h:Ie b):Ie (BK b):=fun x a=>h x (AA9 a)
theorem H2 (b:List Int) (k:Nat):GK b (k:Int)=b.getD k 0:=by
 unfold GK;split
 ·simp
 ·rename_i h;rw[AS,iN (by omega)];rfl
theorem M8 (op:BinOp) (a b:List Int) {n k:Nat} (h:k<n):(Gb op a b n).getD k 0=B7 op .u64 (a.getD k 0) (b.getD k 0):=by
 unfold Gb;rw[AS,AAl,AAZ h];show B7 op .u64 (a.getD k 0) (GK b (k:Int))=_;rw[H2]
theorem Y0 {a b:List Int} (h:FP a b=true) {k:Nat} (hk:k<a.length):B7 .andNot .u64 (a.getD k 0) (b.getD k 0)=0:=by
 unfold FP RC BK at h;have h1:(List.take (Ca (Gb .andNot a b a.length) (Gb .andNot a b a.length).length) (Gb .andNot a b a.length)).length=0:=by
  have:=tO.1 h;omega
 rw[OS,Ep]at h1;have d:=UT (Gb .andNot a b a.length) a.length;have c:=OU (b:=Gb .andNot a b a.length) (n:=a.length) k (by omega) hk;rw[M8 _ _ _ hk]at c;exact c
theorem MO {a b:List Int} (ha:Ie a) (c:Ie b) (h:FP a b=true) {i:Nat} (hi:A9 a i=true):A9 b i=true:=by
 by_cases hk:i / 64<a.length
 ·exact SH (BF ha _) (BF c _) (Y0 h hk) (ACH _ (by decide)) hi
 ·exfalso;unfold A9 at hi;rw[AS,iN (by omega)]at hi;simp at hi
theorem RI {b:List Int}:∀ {n:Nat},(∀k,k<n→b.getD k 0=0)→Ca b n=0
 | 0,_=>rfl
 | n+1,h=>by
  unfold Ca;rw[At (h n (by omega))];exact RI fun k hk=>h k (by omega)
theorem f3 (a:List Int):FP a a=true:=by
 unfold FP RC BK;have h1:Ca (Gb .andNot a a a.length) (Gb .andNot a a a.length).length=0:=by
  rw[Ep];exact RI fun k hk=>by rw[M8 _ _ _ hk];exact SI
 rw[h1];rfl
theorem f4 (a:List Int):DT a a=true:=by unfold DT;rw[f3];rfl
theorem A3a {b:List Int} (j:Ie b) (l:b.length=64) {x:Int} (h0:0≤x) (h1:x≤4095) (i:Nat):A9 (tP b x) i=(A9 b i||decide (x=(i:Int))):=by
 have d:Int.tdiv x 64=x / 64:=AAu h0;have e:Int.tmod x 64=x % 64:=ABl h0;obtain⟨n,rfl⟩:∃n:Nat,x=(n:Int):=⟨x.toNat,by omega⟩;have hs:Sc .u64 1 ((n:Int) % 64)=((2 ^ (n % 64):Nat):Int):=by
  unfold Sc;have f:min ((n:Int) % 64).toNat IntKind.u64.bits=n % 64:=by
   have:((n:Int) % 64).toNat=n % 64:=by omega
   rw[this];have:IntKind.u64.bits=64:=rfl;omega
  rw[f,Int.one_mul];have:(2:Int) ^ (n % 64)=((2 ^ (n % 64):Nat):Int):=by simp
  rw[this];refine Pv ?_;have a:(2:Nat) ^ (n % 64)<2 ^ 64:=Nat.pow_lt_pow_right (by decide) (ACH _ (by decide));exact a
 have hu:U64 (Sc .u64 1 ((n:Int) % 64)):=by
  rw[hs];have a:(2:Nat) ^ (n % 64)<2 ^ 64:=Nat.pow_lt_pow_right (by decide) (ACH _ (by decide));have g:(2:Nat) ^ 64=18446744073709551616:=by decide
  refine⟨AA3 _,?_⟩;rw[g]at a;exact If.2 a
 have hn:((n:Int) / 64).toNat=n / 64:=by omega
 unfold tP A9;rw[d,e,hn];by_cases c:i / 64=n / 64
 ·have k:n / 64<b.length:=by omega
  rw[c];have:(b.set (n / 64) (B7 .or .u64 (b.getD (n / 64) 0) (Sc .u64 1 ((n:Int) % 64)))).getD (n / 64) 0=B7 .or .u64 (b.getD (n / 64) 0) (Sc .u64 1 ((n:Int) % 64)):=by
   simp[AS,k]
  rw[this,A39 (BF j _) hu,hs];simp only[bY,Nat.testBit_or,Nat.testBit_two_pow]
  congr 1
  rw[decide_eq_decide];omega
 ·have:(b.set (n / 64) (B7 .or .u64 (b.getD (n / 64) 0) (Sc .u64 1 ((n:Int) % 64)))).getD (i / 64) 0=b.getD (i / 64) 0:=by
   simp[AS,AAx,Ne.symm c]
  rw[this];have:decide ((n:Int)=(i:Int))=false:=by
   rw[On];intro h;exact c (by omega)
  rw[this,Bool.or_false]
theorem A3b {b:List Int} (c:Ie b) (x:Int):Ie (tP b x):=by
 intro y a;unfold tP at a;rcases AB6 a with h|h
 ·exact c y h
 ·rw[h];have:=Mr .u64 ((BitVec.ofInt IntKind.u64.bits (b.getD (x.tdiv 64).toNat 0) ||| BitVec.ofInt IntKind.u64.bits (Sc .u64 1 (x.tmod 64))).toNat:Int);rw[Ho]at this;exact⟨this.1,by have:=this.2;show _<_;exact ACr this (by decide)⟩
theorem A3c {l:List Int} (h:l.all okB=true) (i:Nat):A9 (v7 l) i=decide ((i:Int)∈l)∧Ie (v7 l):=by
 have key:∀(l b:List Int),l.all okB=true→Ie b→b.length=64→A9 (l.foldl tP b) i=(A9 b i||decide ((i:Int)∈l))∧Ie (l.foldl tP b):=by
  intro l;induction l with
  | nil=>intro b _ a _;simp[a]
  | cons x l m =>
   intro b c a d;rw[AB4,AT]at c;have e:=c.1;unfold okB at e;rw[OR,AAp,On,On]at e;obtain⟨f,g⟩:=m (tP b x) c.2 (A3b a x) (by simp[tP,d]);rw[Rp];refine⟨?_,g⟩;rw[f,A3a a d (by omega) (by omega),Bool.or_assoc]
   congr 1
   rw[←Bool.decide_or,decide_eq_decide,By,eq_comm]
 have j:Ie (List.replicate 64 (0:Int)):=by
  intro y k;rw[(List.mem_replicate.1 k).2];exact⟨by decide,by decide⟩
 have h1:=key l (List.replicate 64 0) h j (by simp);refine⟨?_,h1.2⟩;unfold v7;rw[h1.1];have:A9 (List.replicate 64 (0:Int)) i=false:=by
  unfold A9;have:(List.replicate 64 (0:Int)).getD (i / 64) 0=0:=by
   rw[AS,AAF];split<;>rfl
  rw[this];simp
 rw[this,ACA]
theorem A0D {low all:List ByteArray} {n i:Nat}:((i:Int)∈OT low all n)↔i<n∧AX low (all.getD i ByteArray.empty)=true:=by
 unfold OT;rw[IS];constructor
 ·rintro⟨j,a,e⟩;have:j=i:=by omega
  subst this;rw[AAj,nO]at a;exact a
 ·rintro⟨h1,b⟩;exact⟨i,by rw[AAj,nO];exact⟨h1,b⟩,rfl⟩
theorem A3d {low all:List ByteArray} {n:Nat} (hn:n≤4096):(OT low all n).all okB=true:=by
 rw[GO];intro x a;unfold OT at a;obtain⟨j,b,rfl⟩:=IS.1 a;rw[AAj,nO]at b;unfold okB;rw[OR,AAp,On,On];exact⟨by omega,by omega⟩
theorem Bq {d:List AH} {all:List ByteArray} (c:all.length≤4096) (s:ByteArray) (i:Nat):(A9 (Eq d all s) i=true↔i<all.length∧AX (Ci d s) (all.getD i ByteArray.empty)=true)∧Ie (Eq d all s)∧(Eq d all s).length≤64:=by
 have h1:=A3d (low:=Ci d s) (all:=all) c;have b:=A3c h1 i;have a:Eq d all s=BK (v7 (OT (Ci d s) all all.length)):=by
  unfold Eq ofF;rw[At h1]
 refine⟨?_,?_,?_⟩
 ·rw[a,OV,b.1,DO,A0D]
 ·rw[a];exact OW b.2
 ·rw[a];unfold BK;have:=Pr (OT (Ci d s) all all.length);rw[OS];omega
theorem JN (d:List AH) {s t:ByteArray} (h:Aa s t=true):Ap d s=Ap d t:=by
 have key:∀(l:List AH) (k:Nat),Cq s k l=Cq t k l:=by
  intro l;induction l with
  | nil=>intro k;rfl
  | cons x l b =>
   intro k;simp only[Cq];have:Aa x.1 s=Aa x.1 t:=by
    cases h1:Aa x.1 s with
    | true=>exact(BE h1 h).symm
    | false =>
     cases a:Aa x.1 t with
     | false=>rfl
     | true=>rw[BE a (Dw h)]at h1;cases h1
   rw[this,b]
 exact key d 0
theorem BC {α:Type} {l:List α} {d:α} {k:Nat} (h:k<l.length):l.getD k d∈l:=by
 rw[AS,An h];exact AAh h
theorem CT {α:Type} {l:List α} (d:α) {x:α} (h:x∈l):∃k,k<l.length∧l.getD k d=x:=by
 obtain⟨k,hk,e⟩:=AAg.1 h;exact⟨k,hk,by rw[AS,An hk];exact e⟩
theorem JO {d:List AH}:∀ {r:List AH} {k:Nat},OP d k r=0→∀j,j<r.length→¬Ap d (r.getD j d0).1<((k+j:Nat):Int)∧Eo (r.getD j d0).1 false=true
 | [],_,_,j,a=>by simp at a
 | x :: r,k,h,j,a=>by
  simp only[OP]at h;split at h
  ·cases h
  ·rename_i h1;split at h
   ·cases h
   ·rename_i b;cases j with
    | zero=>exact⟨b,by simpa using h1⟩
    | succ j =>
     have:=JO h j (by simpa using a);have e:k+(j+1)=k+1+j:=by omega
     rw[e];exact this
theorem Px (s:ByteArray):∀(l:List AH) (k j:Nat),j<l.length→Aa (l.getD j d0).1 s=true→Cq s k l≤((k+j:Nat):Int)
 | [],_,j,h,_=>by simp at h
 | x :: l,k,j,h,e=>by
  simp only[Cq];split
  ·omega
  ·rename_i h1;cases j with
   | zero=>exact absurd e h1
   | succ j =>
    have:=Px s l (k+1) j (by simpa using h) e;omega
theorem KN {d:List AH} (h:Cf d=0) {j:Nat} (b:j<d.length):Ap d (d.getD j d0).1=(j:Int):=by
 have h1:=(JO h j b).1;have a:=Px (d.getD j d0).1 d 0 j b (Cr _);rw[AAM]at h1 a;have a:Ap d (d.getD j d0).1≤(j:Int):=a;omega
theorem Py {d:List AH} (h:Cf d=0) {x y:AH} (c:x∈d) (f:y∈d) (e:Aa x.1 y.1=true):x=y:=by
 obtain⟨i,hi,rfl⟩:=CT d0 c;obtain⟨j,b,rfl⟩:=CT d0 f;have h1:=KN h hi;have a:=KN h b;rw[JN d e,a]at h1;have:i=j:=by omega
 rw[this]
theorem lR (d:List AH) (out:List ByteArray) (h:(IY d out).1=true):∃x∈d,x.1=(IY d out).2∧AX out x.1=false∧IX x out=true:=by
 have key:∀(l:List AH) (s:Bool×ByteArray),(∀x∈l,x∈d)→(s.1=true→∃x∈d,x.1=s.2∧AX out x.1=false∧IX x out=true)→(l.foldl (JL out) s).1=true →
   ∃x∈d,x.1=(l.foldl (JL out) s).2∧AX out x.1=false∧IX x out=true:=by
  intro l;induction l with
  | nil=>intro s _ hs h;exact hs h
  | cons y l f =>
   intro s c hs h;rw[Rp]at h ⊢;refine f _ (fun x e=>c x (by simp[e])) (fun hp=>?_) h;unfold JL at hp ⊢;split
   ·rename_i a;rw[At a]at hp;exact hs hp
   ·rename_i a;simp only;have a:AX out y.1=false∧IX y out=true:=by simpa using a
    split
    ·exact⟨y,c y (by simp),rfl,a⟩
    ·rename_i b;have:s.1=true:=by
      cases hh:s.1 with
      | true=>rfl
      | false=>rw[hh]at b;simp at b
     exact hs this
 exact key d _ (fun _ h=>h) (fun h=>by cases h) h
def PL (d:List AH) (o:List ByteArray):Prop:=∀j,j<o.length→∃x∈d,x.1=o.getD j ByteArray.empty∧AX (o.take j) x.1=false∧IX x (o.take j)=true
theorem PL.snoc {d:List AH} {o:List ByteArray} (h:PL d o) {x:AH} (k:x∈d) (h1:AX o x.1=false) (f:IX x o=true):PL d (o++[x.1]):=by
 intro j g;by_cases a:j<o.length
 ·obtain⟨y,l,b,c,e⟩:=h j a;refine⟨y,l,?_,?_,?_⟩
  ·rw[b];simp[AS,AAo,a]
  ·rw[ABc (by omega)];exact c
  ·rw[ABc (by omega)];exact e
 ·have i:j=o.length:=by simp at g;omega
  subst i;refine⟨x,k,?_,?_,?_⟩
  ·simp[AS]
  ·rw[ABc (by omega),f9];exact h1
  ·rw[ABc (by omega),f9];exact f
theorem Ub {d:List AH}:∀ {n:Nat} {o:List ByteArray},PL d o→PL d (JM d n o)
 | 0,_,h=>h
 | n+1,o,h=>by
  unfold JM;split
  ·rename_i hp;obtain⟨x,b,e,h1,a⟩:=lR d o hp;rw[←e];exact Ub (h.snoc b h1 a)
  ·exact h
theorem XS (d:List AH):PL d (Bd d):=Ub fun j a=>by simp at a
theorem PL.ok {d:List AH} {o:List ByteArray} (h:PL d o):Yv d o:=by
 refine⟨fun s hs=>?_,?_⟩
 ·obtain⟨j,a,rfl⟩:=CT ByteArray.empty hs;obtain⟨x,c,e,-⟩:=h j a;rw[←e];exact Da c
 ·rw[oF];intro i j hi a f;obtain⟨x,c,e,h1,-⟩:=h j a;have b:=Po h1 o[i] (by rw[ABs];exact⟨i,by omega,rfl⟩);rw[e]at b;rw[AS,An a]at b;exact b
theorem lS {n:Nat} {l:List Nat} (h:l.Nodup) (c:∀j∈l,j<n) (hn:n≤l.length) {k:Nat} (hk:k<n):k∈l:=by
 refine Do fun b=>?_;have:=EL n (k :: l) (AAd.2 ⟨b,h⟩) (fun j a=>by
  rcases By.1 a with rfl|a
  ·exact hk
  ·exact c j a)
 simp at this;omega
theorem lU {d:List AH} (l:d.length≤(Bd d).length) {x:AH} (m:x∈d):∃s∈Bd d,Aa s x.1=true:=by
 have a:=(XS d).ok;have h1:=LF d a;have h0:=Da m;have h:=DU d x.1;have f:=lS (n:=d.length) h1 (fun j i=>by
  obtain⟨s,hs,rfl⟩:=IS.1 i;have h1:=a.decl s hs;rcases DU d s with g|⟨_,g,_⟩<;>omega) (by simpa using l) (k:=(Ap d x.1).toNat) (by omega)
 obtain⟨s,hs,e⟩:=IS.1 f;refine⟨s,hs,?_⟩;rcases DU d s with g|⟨_,_,b⟩
 ·have:=a.decl s hs;omega
 ·rcases h with g|⟨_,_,c⟩
  ·omega
  ·rw[e]at b;exact BE (Dw b) c
def GL (d:List AH) (s:ByteArray):Nat:=(Bd d).findIdx fun x=>Aa x s
theorem Ig (d:List AH) {s t:ByteArray} (h:Aa s t=true):GL d s=GL d t:=by
 unfold GL
 congr 1
 funext x;cases h1:Aa x s with
 | true=>exact(BE h1 h).symm
 | false =>
  cases a:Aa x t with
  | false=>rfl
  | true=>rw[BE a (Dw h)]at h1;cases h1
theorem LG {d:List AH} (hn:Cf d=0) (o:d.length≤(Bd d).length) {x:AH} (g:x∈d) {s:ByteArray} (hs:AX x.2.1 s=true):GL d s<GL d x.1:=by
 obtain⟨t,q,e⟩:=lU o g;have c:GL d x.1<(Bd d).length:=List.findIdx_lt_length_of_exists ⟨t,q,e⟩;have heq:Aa ((Bd d)[GL d x.1]) x.1=true:=List.findIdx_getElem (w:=c);obtain⟨y,r,a,-,j⟩:=XS d (GL d x.1) c;rw[AS,An c]at a;have a:y.1=(Bd d)[GL d x.1]:=a;rw[←a]at heq;have z:=Py hn r g heq;subst z;obtain⟨u,hu,h⟩:=TO.1 hs;have k:AX ((Bd d).take (GL d y.1)) u=true:=GO.1 j u hu;obtain⟨v,f,ev⟩:=TO.1 k;rw[ABs]at f;obtain⟨i,hi,rfl⟩:=f;have n:i<GL d y.1:=by omega
 refine ACl ?_ n;refine Do fun m=>?_;have b:=List.not_of_lt_findIdx (p:=fun x=>Aa x s) (xs:=Bd d) (i:=i) (by unfold GL at m;omega);have l:Aa ((Bd d)[i]) s=true:=BE ev h;try simp only at b
 rw[l]at b;exact absurd b (by simp)
def WP (d:List AH) (s x:ByteArray):Prop:=Aa s x=true∨GL d s<GL d x
theorem tT {d:List AH} (hn:Cf d=0) (f:d.length≤(Bd d).length) {s c:ByteArray} (b:WP d s c) {o:List ByteArray} (e:∀x∈o,WP d s x) {x:AH} (g:x∈d):∀y∈FJ c o x,WP d s y:=by
 intro y a;unfold FJ at a;split at a
 ·rename_i h;rw[AT]at h;rcases OF.1 a with a|a
  ·exact e y a
  ·have:y=x.1:=by simpa using a
   subst this;have h1:=LG hn f g h.1;right;rcases b with b|b
   ·rw[Ig d b];exact h1
   ·omega
 ·exact e y a
theorem Uc {d:List AH} (hn:Cf d=0) (e:d.length≤(Bd d).length) {s c:ByteArray} (b:WP d s c):∀ {l:List AH} {o:List ByteArray},(∀x∈l,x∈d)→(∀x∈o,WP d s x)→∀y∈l.foldl (FJ c) o,WP d s y
 | [],_,_,a=>a
 | x :: l,o,f,a=>by
  rw[Rp];exact Uc hn e b (fun y g=>f y (by simp[g])) (tT hn e b a (f x (by simp)))
theorem SJ {d:List AH} (hn:Cf d=0) (b:d.length≤(Bd d).length) {s:ByteArray}:∀ {n i:Nat} {o:List ByteArray},(∀x∈o,WP d s x)→∀y∈Cg d n i o,WP d s y
 | 0,_,_,a=>a
 | n+1,i,o,a=>by
  unfold Cg;split
  ·rename_i hi;exact SJ hn b (Uc hn b (a _ (BC hi)) (fun _ h=>h) a)
  ·exact a
theorem A0E {c:ByteArray} {o:List ByteArray} {x:AH} {y:ByteArray} (h:y∈o):y∈FJ c o x:=by
 unfold FJ;split
 ·exact OF.2 (.inl h)
 ·exact h
theorem M9 {c:ByteArray} {y:ByteArray}:∀ {l:List AH} {o:List ByteArray},y∈o→y∈l.foldl (FJ c) o
 | [],_,h=>h
 | x :: l,o,h=>by rw[Rp];exact M9 (A0E h)
theorem LH {d:List AH} {y:ByteArray}:∀ {n i:Nat} {o:List ByteArray},y∈o→y∈Cg d n i o
 | 0,_,_,h=>h
 | n+1,i,o,h=>by
  unfold Cg;split
  ·exact LH (M9 h)
  ·exact h
theorem G2 {l:List ByteArray} {s x:ByteArray} (h:x∈EW l s):x∈l∨x=s:=by
  unfold EW at h;split at h
  · exact .inl h
  · simp only[OF,By,AAz]at h
    rcases h with h|h
    · first
        | exact .inl (AA9 h)
        | (rcases h with h | h
           · exact .inl (AA9 h)
           · exact .inr (by simpa using h))
    · first
        | exact .inl (AAJ h)
        | (rcases h with h | h
           · exact .inr h
           · exact .inl (AAJ h))
theorem NA {l:List ByteArray} {s x:ByteArray} (h:x∈l):x∈EW l s:=by
 unfold EW;split
 ·exact h
 ·have a:x∈l.take (v6 l s)∨x∈l.drop (v6 l s):=OF.1 (by rw[ABn];exact h);simp only[OF,By,AAz];rcases a with a|a<;>simp[a]
theorem Pz {l:List ByteArray} {s:ByteArray}:AX (EW l s) s=true:=by
  unfold EW;split
  · rename_i h
    first
      | exact Gz l ByteArray.empty _ h.1 h.2
      | (have h : v6 l s < l.length ∧ Aa (l.getD (v6 l s) ByteArray.empty) s = true := by simpa using h
         exact Gz l ByteArray.empty _ h.1 h.2)
  · unfold AX
    rw[TO];exact⟨s,by simp,Cr s⟩
theorem Fl {l:List ByteArray} {s:ByteArray} (h:s∈l):AX l s=true:=TO.2 ⟨s,h,Cr s⟩
theorem KO {l m:List ByteArray} {s:ByteArray} (hs:∀x∈l,x∈m) (h:AX l s=true):AX m s=true:=by
 obtain⟨x,a,e⟩:=TO.1 h;exact TO.2 ⟨x,hs x a,e⟩
theorem Ud:∀ {l o:List ByteArray} {x:ByteArray},x∈l.foldl EW o→x∈o∨x∈l
 | [],_,_,h=>.inl h
 | y :: l,o,x,h=>by
  rw[Rp]at h;rcases Ud h with h|h
  ·rcases G2 h with h|h
   ·exact .inl h
   ·exact .inr (by simp[h])
  ·exact .inr (by simp[h])
theorem XT:∀ {l o:List ByteArray} {x:ByteArray},x∈o→x∈l.foldl EW o
 | [],_,_,h=>h
 | y :: l,o,x,h=>by rw[Rp];exact XT (NA h)
theorem P0:∀ {l o:List ByteArray} {x:ByteArray},x∈l→AX (l.foldl EW o) x=true
 | [],_,_,h=>by cases h
 | y :: l,o,x,h=>by
  rw[Rp];rcases By.1 h with rfl|h
  ·exact KO (fun z a=>XT a) (Pz (l:=o) (s:=x))
  ·exact P0 h
theorem OX {d:List AH} {s:ByteArray} (h:0≤Ap d s):AX (Ci d s) s=true:=by
 unfold Ci;rw[As (by omega)];exact P0 (LH (by simp))
theorem Ue {d:List AH} (hn:Cf d=0) (c:d.length≤(Bd d).length) {s x:ByteArray} (h:AX (Ci d s) x=true):WP d s x:=by
 obtain⟨y,a,e⟩:=TO.1 h;have b:WP d s y:=by
  unfold Ci at a;split at a
  ·cases a
  ·rcases Ud a with a|a
   ·cases a
   ·refine SJ hn c (fun z f=>?_) y a;have:z=s:=by simpa using f
    rw[this];exact .inl (Cr s)
 rcases b with b|b
 ·exact .inl (BE b e)
 ·rw[Ig d e]at b;exact .inr b
theorem Cs {d:List AH} {s:ByteArray} (h:s∈AN d):∃x∈d,x.1=s:=by
 have key:∀(l:List AH) (o:List ByteArray),s∈l.foldl (fun o x=>EW o x.1) o→s∈o∨∃x∈l,x.1=s:=by
  intro l;induction l with
  | nil=>intro o h;exact .inl h
  | cons x l b =>
   intro o h;rw[Rp]at h;rcases b _ h with h|⟨y,a,e⟩
   ·rcases G2 h with h|h
    ·exact .inl h
    ·exact .inr ⟨x,by simp,h.symm⟩
   ·exact .inr ⟨y,by simp[a],e⟩
 rcases key d [] h with h|h
 ·cases h
 ·exact h
theorem OY {d:List AH} {x:AH} (h:x∈d):AX (AN d) x.1=true:=by
 have b:∀(l:List AH) (o:List ByteArray),∀y∈o,y∈l.foldl (fun o x=>EW o x.1) o:=by
  intro l;induction l with
  | nil=>intro o y h;exact h
  | cons x l a=>intro o y h;rw[Rp];exact a _ y (NA h)
 have key:∀(l:List AH) (o:List ByteArray),x∈l→AX (l.foldl (fun o x=>EW o x.1) o) x.1=true:=by
  intro l;induction l with
  | nil=>intro o h;cases h
  | cons y l a =>
   intro o h;rw[Rp];rcases By.1 h with rfl|h
   ·exact KO (b l _) (Pz (l:=o) (s:=x.1))
   ·exact a _ h
 exact key d [] h
theorem f5 {d:List AH} (hn:Cf d=0) (g:d.length≤(Bd d).length) (r:d.length≤256) {i j:Nat} (hi:i<(AN d).length) (f:j<(AN d).length)
  (h:DT (Eq d (AN d) ((AN d).getD i ByteArray.empty)) (Eq d (AN d) ((AN d).getD j ByteArray.empty))=true):Aa ((AN d).getD i ByteArray.empty) ((AN d).getD j ByteArray.empty)=true:=by
 have o:=Dv d d.length;rw[f9]at o;have a:(AN d).length≤4096:=by omega
 generalize hs:(AN d).getD i ByteArray.empty=s at *;generalize b:(AN d).getD j ByteArray.empty=t at *;have p:0≤Ap d s:=by
  obtain⟨x,c,e⟩:=Cs (s:=s) (by rw[←hs];exact BC hi);rw[←e];exact Da c
 have q:0≤Ap d t:=by
  obtain⟨x,c,e⟩:=Cs (s:=t) (by rw[←b];exact BC f);rw[←e];exact Da c
 obtain⟨c1,k,-⟩:=Bq (d:=d) a s i;obtain⟨c2,l,-⟩:=Bq (d:=d) a t i;obtain⟨m,-,-⟩:=Bq (d:=d) a s j;obtain⟨n,-,-⟩:=Bq (d:=d) a t j;unfold DT at h;rw[AT]at h;have b1:=Ue hn g (c2.1 (MO k l h.1 (c1.2 ⟨hi,by rw[hs];exact OX p⟩))).2;have b2:=Ue hn g (m.1 (MO l k h.2 (n.2 ⟨f,by rw[b];exact OX q⟩))).2;rw[hs]at b1;rw[b]at b2;rcases b1 with b1|b1
 ·exact Dw b1
 ·rcases b2 with b2|b2
  ·exact b2
  ·omega
section
attribute [local go_sem] Yp A0l ML cs0 cs1
def pS (d:List AH) (all:List ByteArray) (codes:List (List Int)) (b:List Int):Nat→Nat→List ByteArray→ByteArray ⊕ List ByteArray
 | 0,_,l=>.inr l
 | n+1,i,l=>if DT (codes.getD i []) b=true then .inl (all.getD i ByteArray.empty) else pS d all codes b n (i+1) (if RB b (i:Int)=true then l++[all.getD i ByteArray.empty] else l)
def XU (l:List ByteArray) (s:ByteArray) (i:Nat):ByteArray:=(if 0<(i:Int) then s++ByteArray.mk #[38] else s)++l.getD i ByteArray.empty
def f7 (l:List ByteArray):ByteArray:=(List.range l.length).foldl (XU l) ByteArray.empty
def G7 (d:List AH) (all:List ByteArray) (codes:List (List Int)) (b:List Int):ByteArray :=
 match pS d all codes b all.length 0 [] with
 | .inl s=>s
 | .inr l=>f7 (Ay d l)
theorem Np {d:List AH} {x:ByteArray}:∀ {l o:List ByteArray},x∈l.foldl (FK d) o→x∈o∨x∈l
 | [],_,h=>.inl h
 | y :: l,o,h=>by
  rw[Rp]at h;rcases Np h with h|h
  ·unfold FK at h;split at h
   ·rcases G2 h with h|h
    ·exact .inl h
    ·exact .inr (by simp[h])
   ·exact .inl h
  ·exact .inr (by simp[h])
theorem Hr {d:List AH} {l:List ByteArray} {x:ByteArray} (h:x∈Ay d l):x∈l:=by
 unfold Ay Pq at h;obtain⟨i,hi,rfl⟩:=IS.1 h;rw[AAj,nO]at hi;rcases Np (BC (d:=ByteArray.empty) hi.1) with h|h
 ·cases h
 ·exact h
theorem Y2 (d:List AH) (l:List ByteArray):(Ay d l).length≤l.length:=aT (fW _ _ _) (Ju d l)
theorem lV {l:List ByteArray} (h:∀s∈l,s.size≤32) (k:Nat):(l.getD k ByteArray.empty).size≤32:=by
 rw[AS];cases hh:l[k]? with
 | none=>simp
 | some x=>exact h x (AAf hh)
def P6 (l:List ByteArray) (n:Nat):ByteArray:=(List.range n).foldl (XU l) ByteArray.empty
theorem OZ (l:List ByteArray) (n:Nat):P6 l (n+1)=XU l (P6 l n) n:=by
 unfold P6;rw[AAe,ABx];rfl
theorem Uf {l:List ByteArray} (h:∀s∈l,s.size≤32):∀n,(P6 l n).size≤33*n
 | 0=>by simp[P6]
 | n+1=>by
  have h1:=Uf h n;have a:=lV h n;rw[OZ];unfold XU;split
  ·rw[ABq,ABq];have:(ByteArray.mk #[38]).size=1:=rfl;omega
  ·rw[ABq];omega
def Y3:Ae:={ ins:=[FC,B6,Si,EV],pre:=fun(d,all,codes,b,_)=>Pn d∧List.length d≤256∧List.length all≤256∧List.length codes=List.length all∧(∀s∈(all:List ByteArray),s.size≤32)∧(∀x∈(codes:List (List Int)),x.length≤64)∧List.length b≤64,out:=fun(d,all,codes,b,_)=>[.p T9 (G7 d all codes b)] }
theorem tU:Ao Tryz.prog 101 Y3:=by
 refine fK [0,1,2,3,8,9,10,11,12,16,24,31,45,49] Tryz.func101 Tryz.ntmps101 (AF tG (AF A0m (AF UX AG))) ?_;rintro w0 O0 ⟨d,all,codes,b,u⟩ e-⟨hs,z,t,q,C,y,w⟩;have t:all.length≤256:=t;have q:codes.length=all.length:=q;simp only[Y3,AM];repeat'(first|exact trivial|refine eS rfl ?_|refine AB ?_|refine rX e ?_ ?_|refine rC ?_ ?_<;>intro a<;>try(cases a;done))
 refine AJ (ι:={x:Nat×List ByteArray//x.1≤all.length∧x.2.length≤x.1∧(∀s∈x.2,s.size≤32)∧pS d all codes b (all.length-x.1) x.1 x.2=pS d all codes b all.length 0 []}) (fun x=>⟨[(0,.p FC d),(1,.p B6 all),(2,.p Si codes),(3,.p EV b),(9,.sr 38 T9 0 x.1.2.length),(10,.p (.int .i64) (x.1.1:Int))],[(38,.arr 9 T9 x.1.2)]⟩) (fun x=>all.length-x.1.1) ⟨(0,[]),by simp,by simp,by simp,rfl⟩ (AC [(38,.nil)] rfl rfl ?_ ?_) (fun x=>?_)
 ·first|exact eN|refine eM ?_
 ·first|exact eN|refine eM ?_
 ·obtain⟨⟨i,l⟩,hi,B,o,f⟩:=x;simp only at hi B o f;have r:i<all.length→pS d all codes b (all.length-i) i l=if DT (codes.getD i []) b=true then .inl (all.getD i ByteArray.empty) else pS d all codes b (all.length-(i+1)) (i+1) (if RB b (i:Int)=true then l++[all.getD i ByteArray.empty] else l):=by
   intro h;rw[show all.length-i=(all.length-(i+1))+1 by omega];rfl
  simp only;repeat'(first|exact trivial|refine eS rfl ?_|refine AB ?_|refine rX e ?_ ?_|refine rC ?_ ?_<;>intro a<;>try(cases a;done))
  ·exact⟨by rw[q];exact a,aT (MN y i) (by decide),aT w (by decide)⟩
  ·assumption
  ·have c:i<all.length:=by exact eV
   have j:G7 d all codes b=all.getD i ByteArray.empty:=by
    unfold G7;rw[←f,r c,At a]
   exact fI e [.tmp 8] (by rw[j];exact eR)
  ·have c:i<all.length:=by exact eV
   exact⟨If.2 c,by simp only[AO];omega⟩
  ·exact eV
  ·have c:i<all.length:=by exact eV
   have hn:=r c;rw[As (by rw[‹DT _ _=false›];simp),At a]at hn;refine⟨⟨(i+1,l++[all.getD i ByteArray.empty]),by simp only;omega,by simp only[IN,To];omega,?_,hn.symm.trans f⟩,by simp only;omega,AC [(38,.nm 38)] rfl rfl ?_ ?_⟩
   ·intro s hs;rcases OF.1 hs with hs|hs
    ·exact o s hs
    ·have:s=all.getD i ByteArray.empty:=by simpa using hs
     rw[this];exact lV C i
   ·first|exact eN|refine eM ?_
   ·first|exact eN|refine eM ?_
  ·exact eV
  ·have c:i<all.length:=by exact eV
   have hn:=r c;rw[As (by rw[‹DT _ _=false›];simp),As (by rw[a];simp)]at hn;refine⟨⟨(i+1,l),by simp only;omega,by simp only;omega,o,hn.symm.trans f⟩,by simp only;omega,AC [(38,.nm 38)] rfl rfl ?_ ?_⟩
   ·first|exact eN|refine eM ?_
   ·first|exact eN|refine eM ?_
  ·have j:G7 d all codes b=f7 (Ay d l):=by
    unfold G7;rw[←f];have:all.length-i=0:=by exact eV
    rw[this];rfl
   refine Gy [38] ?_;repeat'(first|exact trivial|refine eS rfl ?_|refine AB ?_|refine rX e ?_ ?_|refine rC ?_ ?_<;>intro a<;>try(cases a;done))
   ·exact⟨hs,z,by omega⟩
   ·have v:∀s∈Ay d l,s.size≤32:=fun s h=>o s (Hr h);have E:=Y2 d l;have A:f7 (Ay d l)=P6 (Ay d l) (Ay d l).length:=rfl;rw[A]at j;generalize Ay d l=m at *;refine AJ (ι:={k:Nat//k≤m.length}) (fun k=>⟨[(9,.p B6 m),(11,.p T9 (P6 m k.1)),(12,.p (.int .i64) (k.1:Int))],[]⟩) (fun k=>m.length-k.1) ⟨0,Is _⟩ (AC [] rfl rfl ?_ ?_) (fun k=>?_)
    ·first|exact eN|refine eM ?_
    ·first|exact eN|refine eM ?_
     rfl
    ·obtain⟨k,hk⟩:=k;have hk:k≤m.length:=hk;have D:=Uf v k;have n:=OZ m k;have F:=lV v k;unfold XU at n;simp only;repeat'(first|exact trivial|refine eS rfl ?_|refine AB ?_|refine rX e ?_ ?_|refine rC ?_ ?_<;>intro a<;>try(cases a;done))
     ·have h1:(ByteArray.mk #[38]).size=1:=rfl;rw[h1];simp only[AO];exact eV
     ·refine⟨by assumption,?_⟩;have h1:(ByteArray.mk #[38]).size=1:=rfl;rw[ABq,h1];simp only[AO];exact eV
     ·exact eV
     ·have g:k<m.length:=by exact eV
      rw[At a]at n;refine⟨⟨k+1,g⟩,by simp only;omega,AC [] rfl rfl ?_ ?_⟩
      ·first|exact eN|refine eM ?_
      ·simp only[n];first|exact eN|refine eM ?_
     ·refine⟨by assumption,?_⟩;simp only[AO];exact eV
     ·exact eV
     ·have g:k<m.length:=by exact eV
      rw[As (AAS.2 a)]at n;refine⟨⟨k+1,g⟩,by simp only;omega,AC [] rfl rfl ?_ ?_⟩
      ·first|exact eN|refine eM ?_
      ·simp only[n];first|exact eN|refine eM ?_
     ·have g:k=m.length:=by exact eV
      rw[←g]at j;exact fI e [.tmp 8] (by rw[j];exact eR)
end
section
attribute [local go_sem] S7 Pm A0z Yz Y3 Yy
def Fm (x:AQ) (out:List AQ):Nat→Nat
 | 0=>0
 | n+1=>if F7 x (out.getD n c0)=true then Fm x out n else n+1
def Y4 (out:List AQ) (x:AQ):List AQ:=out.take (Fm x out out.length)++[x]++out.drop (Fm x out out.length)
def AU (d:List AH):List (List Int):=(AN d).map fun s=>Eq d (AN d) s
def Gf (d:List AH) (all:List ByteArray) (codes:List (List Int)) (out:List AQ) (b:List Int):List AQ:=Y4 out (G7 d all codes b,b)
def RJ (d:List AH):List AQ→List Int→List AQ:=Gf d (AN d) (AU d)
theorem Oa (d:List AH) (all:List ByteArray) (codes:List (List Int)):∀(l:List (List Int)) (o:List AQ),(l.foldl (Gf d all codes) o).length=o.length+l.length
 | [],o=>by simp
 | b :: l,o=>by
  rw[Rp,Oa d all codes l];unfold Gf Y4;simp only[IN,OS,AA7,Of,AAN];omega
theorem Ug {d:List AH} {all:List ByteArray} {codes:List (List Int)}:∀ {l:List (List Int)} {o:List AQ},(∀c∈l,c.length≤64)→(∀y∈o,y.2.length≤64)→∀y∈l.foldl (Gf d all codes) o,y.2.length≤64
 | [],_,_,e=>e
 | b :: l,o,f,e=>by
  rw[Rp];refine Ug (fun c g=>f c (by simp[g])) (fun y a=>?_);unfold Gf Y4 at a;simp only[OF,AAz]at a;rcases a with (a|a)|a
  ·exact e y (AA9 a)
  ·rw[a];exact f b (by simp)
  ·exact e y (AAJ a)
theorem f8 (x:AQ) (out:List AQ):∀n,Fm x out n≤n
 | 0=>No _
 | n+1=>by
  unfold Fm;split
  ·exact Nat.le_succ_of_le (f8 x out n)
  ·exact No _
def AL (d:List AH):List AQ:=(Au (AU d)).foldl (RJ d) []
def B1 (d:List AH):List AQ×Int :=
 if A4 d≠0 then ([],A4 d) else if 256<(Au (AU d)).length then ([],7) else (AL d,0)
theorem lW {s:ByteArray} {b:Bool} (h:Eo s b=true):s.size≤32:=by
 unfold Eo at h;rw[AT]at h;have h1:=h.1;unfold Q9 at h1;simp only[OR,AAp,On]at h1;have:=h1.1.1.2;omega
theorem gB {d:List AH} (hn:Cf d=0):∀s∈AN d,s.size≤32:=by
 intro s hs;obtain⟨x,b,rfl⟩:=Cs hs;obtain⟨j,a,rfl⟩:=CT d0 b;exact lW (JO hn j a).2
def LI (d:List AH) (n:Nat):List (List Int):=((AN d).take n).map fun s=>Eq d (AN d) s
theorem lX {d:List AH} {n:Nat} (h:n≤(AN d).length):(LI d n).length=n:=by simp[LI,h]
theorem gC {d:List AH} {n:Nat} (h:n<(AN d).length):LI d (n+1)=LI d n++[Eq d (AN d) ((AN d).getD n ByteArray.empty)]:=by
 unfold LI;rw[Ax _ ByteArray.empty h,AAA];rfl
theorem lY (d:List AH):LI d (AN d).length=AU d:=by simp[LI,AU]
theorem lZ (d:List AH):(AU d).length=(AN d).length:=by simp[AU]
theorem Ob {d:List AH} (h:d.length≤256):∀c∈AU d,c.length≤64:=by
 intro c a;unfold AU at a;obtain⟨s,-,rfl⟩:=IS.1 a;have b:=Dv d d.length;rw[f9]at b;exact(Bq (d:=d) (all:=AN d) (by omega) s 0).2.2
theorem gD {i:Nat}:∀ {n k:Nat} {l:List (List Int)},(∀c∈l,c.length≤64)→∀c∈Ge i n k l,c.length≤64
 | 0,_,_,h=>h
 | n+1,k,l,h=>by
  unfold Ge;split
  ·exact gD (f2 h i k)
  ·exact h
theorem QA:∀ {n i:Nat} {l:List (List Int)},(∀c∈l,c.length≤64)→∀c∈Ic n i l,c.length≤64
 | 0,_,_,h=>h
 | n+1,i,l,h=>by
  unfold Ic;split
  ·exact QA (gD h)
  ·exact h
theorem gE {out:List AQ} {x y:AQ}:y∈Y4 out x↔y=x∨y∈out:=by
 unfold Y4;rw[OF,OF,AAz];have h:=OF (a:=y) (s:=out.take (Fm x out out.length)) (t:=out.drop (Fm x out out.length));rw[ABn]at h;rw[h];constructor
 ·rintro ((h|h)|h)
  ·exact .inr (.inl h)
  ·exact .inl h
  ·exact .inr (.inr h)
 ·rintro (h|h|h)
  ·exact .inl (.inr h)
  ·exact .inl (.inl h)
  ·exact .inr h
def RK:Ae:={ ins:=[FC],pre:=fun _=>True,out:=fun(d,_)=>[.p KK (B1 d).1,.p WA (B1 d).2] }
theorem QB:Ao Tryz.prog 64 RK:=by
 refine fK [0,2,3,4,5,6,7,8,9,10,11,12,13,17,24,41,45,73] Tryz.func64 Tryz.ntmps64 (AF tM (AF XK (AF A38 (AF tS (AF tU (AF tQ AG)))))) ?_;rintro w0 O0 ⟨d,u⟩ g - -;simp only[RK,AM];repeat'(first|exact trivial|refine eS rfl ?_|refine AB ?_|refine rX g ?_ ?_|refine rC ?_ ?_<;>intro a<;>try(cases a;done))
 ·have h1:B1 d=([],A4 d):=by unfold B1;rw[At a]
  exact fI g [.tmp 2,.tmp 3] (by rw[h1];exact eR)
 ·have i:A4 d=0:=by simpa using a
  obtain⟨-,E,-⟩:=Aw i;exact aT E (by decide)
 ·have i:A4 d=0:=by simpa using a
  obtain⟨M,s,-,hn,-⟩:=Aw i;have F:=Dv d d.length;rw[f9]at F;have N:=gB hn;refine AJ (ι:={n:Nat//n≤(AN d).length}) (fun n=>⟨[(0,.p FC d),(5,.p B6 (AN d)),(6,.sr 36 EV 0 (LI d n.1).length),(7,.p (.int .i64) (n.1:Int))],[(36,.arr 81 EV (LI d n.1))]⟩) (fun n=>(AN d).length-n.1) ⟨0,Is _⟩ (AC [(36,.nil)] rfl rfl ?_ ?_) (fun n=>?_)
  ·first|exact eN|refine eM ?_
   rfl
  ·first|exact eN|refine eM ?_
   rfl
  ·obtain⟨n,I⟩:=n;have Q:=lX I;have hs:=fun h=>gC (d:=d) (n:=n) h;simp only;repeat'(first|exact trivial|refine eS rfl ?_|refine AB ?_|refine rX g ?_ ?_|refine rC ?_ ?_<;>intro a<;>try(cases a;done))
   ·refine⟨a,⟨s,by dsimp only[Ty.den]at *;omega⟩,?_⟩;simp only[AO];dsimp only[Ty.den]at *;omega
   ·exact eV
   ·have w:n<(AN d).length:=by exact eV
    have e:=hs w;refine⟨⟨n+1,by omega⟩,by simp only;omega,AC [(36,.nm 36)] rfl rfl ?_ ?_⟩
    ·simp only[e];first|exact eN|refine eM ?_
    ·simp only[e];first|exact eN|refine eM ?_
   ·have w:n=(AN d).length:=by exact eV
    subst w;rw[lY];have H:=lZ d;have x:=Ob s;have t:∀c∈Au (AU d),c.length≤64:=QA x;refine Gy [36] ?_;repeat'(first|exact trivial|refine eS rfl ?_|refine AB ?_|refine rX g ?_ ?_|refine rC ?_ ?_<;>intro a<;>try(cases a;done))
    ·exact⟨by omega,x⟩
    ·have h1:B1 d=([],7):=by
      unfold B1;rw[As (by rw[i];simp),At (by omega)]
     exact fI g [.tmp 2,.tmp 3] (by rw[h1];exact eR)
    ·have D:B1 d=((Au (AU d)).foldl (Gf d (AN d) (AU d)) [],0):=by
      unfold B1;rw[As (by rw[i];simp),As (by omega)];rfl
     generalize Au (AU d)=f at *;generalize AU d=codes at *;generalize AN d=all at *;refine AJ (ι:={k:Nat//k≤f.length}) (fun k=>⟨[(0,.p FC d),(5,.p B6 all),(6,.p Si codes),(8,.p Si f),(9,.sr 9 Yn 0 ((f.take k.1).foldl (Gf d all codes) []).length),(10,.p (.int .i64) (k.1:Int))],[(9,.arr 104 Yn ((f.take k.1).foldl (Gf d all codes) []))]⟩) (fun k=>f.length-k.1) ⟨0,Is _⟩ (AC [(9,.nil)] rfl rfl ?_ ?_) (fun k=>?_)
     ·first|exact eN|refine eM ?_
      rfl
     ·first|exact eN|refine eM ?_
      rfl
     ·obtain⟨k,hk⟩:=k;have C:=Oa d all codes (f.take k) [];have O:(f.take k).length=k:=by rw[OS];exact ABg hk
      have J:=Ug (d:=d) (all:=all) (codes:=codes) (l:=f.take k) (o:=[]) (fun c g=>t c (AA9 g)) (by simp);have L:=fun h:k<f.length=>E1 (Gf d all codes) f [] [] h;rw[O]at C;simp only[AAN,AAM]at C;generalize B:(f.take k).foldl (Gf d all codes) []=out at *;simp only;repeat'(first|exact trivial|refine eS rfl ?_|refine AB ?_|refine rX g ?_ ?_|refine rC ?_ ?_<;>intro a<;>try(cases a;done))
      ·exact⟨a,⟨M,s,by omega,H,N,x,MN t k⟩,a⟩
      ·have v:k<f.length:=by exact eV
       have e:=L v;have G:=MN t k;generalize f.getD k []=b at *;unfold Gf at e;generalize G7 d all codes b=nm at *;refine AJ (ι:={q:Nat//q≤out.length∧Fm (nm,b) out q=Fm (nm,b) out out.length}) (fun q=>⟨[(0,.p FC d),(5,.p B6 all),(6,.p Si codes),(8,.p Si f),(9,.sr 9 Yn 0 out.length),(10,.p (.int .i64) (k:Int)),(11,.bp 11 [] 0),(12,.p (.int .i64) (q.1:Int))],[(9,.arr 104 Yn out),(11,.box 104 true [.p T9 nm,.p EV b])]⟩) (fun q=>q.1) ⟨out.length,No _,rfl⟩ (AC [(9,.nm 9),(11,.nm 11)] rfl rfl ?_ ?_) (fun q=>?_)
       ·first|exact eN|refine eM ?_
       ·first|exact eN|refine eM ?_
       ·obtain⟨q,j,A⟩:=q;have j:q≤out.length:=j;simp only;repeat'(first|exact trivial|refine eS rfl ?_|refine AB ?_|refine rX g ?_ ?_|refine rC ?_ ?_<;>intro a<;>try(cases a;done))
        ·refine⟨fun h=>by omega,fun h=>by exact eV,fun h=>⟨aT G (by decide),aT (J _ (AD out c0 (k:=((q:Int)-1).toNat) (by omega))) (by decide)⟩⟩
        ·omega
        ·obtain⟨P,z⟩:=a;obtain⟨q,rfl⟩:∃r,q=r+1:=⟨q-1,by omega⟩;have m:((q+1:Nat):Int)-1=(q:Int):=by omega
         refine⟨⟨q,by omega,?_⟩,ACB q,AC [(9,.nm 9),(11,.nm 11)] rfl rfl ?_ ?_⟩
         ·rw[←A];rw[m,bY]at z;show _=if F7 (nm,b) (out.getD q c0)=true then Fm (nm,b) out q else q+1
          rw[At z]
         ·first|exact eN|refine eM ?_
         ·first|exact eN|refine eM ?_
          show (q:Int)+1-1=q;omega
        ·refine⟨gO.2 j,?_⟩;rw[OS];simp only[AO];omega
        ·rw[OS];simp only[AO];omega
        ·refine⟨gO.2 j,?_⟩;rw[OS,AA7];simp only[AO];omega
        ·omega
        ·have K:Fm (nm,b) out q=q:=by
          cases q with
          | zero=>rfl
          | succ q =>
           have m:((q+1:Nat):Int)-1=(q:Int):=by omega
           have:=a (by omega);rw[m,bY]at this;show (if F7 (nm,b) (out.getD q c0)=true then Fm (nm,b) out q else q+1)=q+1;rw[As (by rw[this];simp)]
         unfold Y4 at e;rw[←A,K]at e;refine⟨⟨k+1,by omega⟩,by simp only;omega,AC [(9,.nm 80)] rfl rfl ?_ ?_⟩
         ·first|exact eN|refine eM ?_
          exact e.symm
         ·first|exact eN|refine eM ?_
          have y:=AAP List.length e;rw[IN,IN]at y;exact y.symm
      ·have v:k=f.length:=by exact eV
       rw[v,f9]at B;rw[B]at D;refine Gy [9] ?_;exact fI g [.tmp 2,.tmp 3] (by rw[D];exact eR)
end
theorem XV {d:List AH}:∀ {l:List (List Int)} {o:List AQ} {y:AQ},y∈l.foldl (RJ d) o↔y∈o∨∃b∈l,y=(G7 d (AN d) (AU d) b,b)
 | [],o,y=>by simp
 | b :: l,o,y=>by
  rw[Rp,XV];unfold RJ Gf;rw[gE];simp only[By];constructor
  ·rintro ((h|h)|⟨c,a,e⟩)
   ·exact .inr ⟨b,.inl rfl,h⟩
   ·exact .inl h
   ·exact .inr ⟨c,.inr a,e⟩
  ·rintro (h|⟨c,rfl|a,e⟩)
   ·exact .inl (.inr h)
   ·exact .inl (.inl e)
   ·exact .inr ⟨c,a,e⟩
theorem Db {d:List AH} {y:AQ}:y∈AL d↔∃b∈Au (AU d),y=(G7 d (AN d) (AU d) b,b):=by
 unfold AL;rw[XV];simp
theorem Ih (d:List AH):(AL d).length=(Au (AU d)).length:=by
 have h:=Oa d (AN d) (AU d) (Au (AU d)) [];rw[AAN,AAM]at h;exact h
theorem A0F {l:List (List Int)} {i k:Nat} {c:List Int} (h:c∈l):c∈Gd l i k:=by
 unfold Gd;split
 ·exact OF.2 (.inl h)
 ·exact h
theorem gF {i:Nat} {c:List Int}:∀ {n k:Nat} {l:List (List Int)},c∈l→c∈Ge i n k l
 | 0,_,_,h=>h
 | n+1,k,l,h=>by
  unfold Ge;split
  ·exact gF (A0F h)
  ·exact h
theorem gG {c:List Int}:∀ {n i:Nat} {l:List (List Int)},c∈l→c∈Ic n i l
 | 0,_,_,h=>h
 | n+1,i,l,h=>by
  unfold Ic;split
  ·exact gG (gF h)
  ·exact h
theorem JP (d:List AH) {i:Nat} (h:i<(AN d).length):(AU d).getD i []=Eq d (AN d) ((AN d).getD i ByteArray.empty):=by
 unfold AU;simp[AS,h]
theorem pT {d:List AH} (hn:Cf d=0) (f:d.length≤(Bd d).length) (c:d.length≤256) {j:Nat} (b:j<(AN d).length):∀(m i:Nat) (l:List ByteArray),i+m=(AN d).length→i≤j →
  ∃s,pS d (AN d) (AU d) ((AU d).getD j []) m i l=.inl s∧Aa s ((AN d).getD j ByteArray.empty)=true
 | 0,i,l,h,g=>by omega
 | m+1,i,l,h,g=>by
  unfold pS;split
  ·rename_i a;refine⟨_,rfl,?_⟩;rw[JP d (by omega),JP d b]at a;exact f5 hn f c (by omega) b a
  ·rename_i a;have k:i≠j:=by
    intro e;subst e;exact a (f4 _)
   exact pT hn f c b m (i+1) _ (by omega) (by omega)
theorem pU (s:ByteArray):∀(l:List AQ) (k:Nat),MM s k l<((k+l.length:Nat):Int)
 | [],k=>by simp only[MM];omega
 | x :: l,k=>by
  simp only[MM];split
  ·simp only[Of];omega
  ·have:=pU s l (k+1);simp only[Of];omega
theorem pV (s:ByteArray):∀(l:List AQ) (k:Nat) (x:AQ),x∈l→Aa x.1 s=true→0≤MM s k l
 | [],_,_,h,_=>by cases h
 | y :: l,k,x,h,e=>by
  simp only[MM];split
  ·omega
  ·rename_i a;rcases By.1 h with rfl|h
   ·exact absurd e a
   ·exact pV s l (k+1) x h e
theorem Ii (l:List AQ) (s:ByteArray):BL l s<(l.length:Int):=by
 have:=pU s l 0;rw[AAM]at this;exact this
theorem G8 {d:List AH} (h:A4 d=0) {s:ByteArray} (hs:AX (AN d) s=true):0≤BL (AL d) s:=by
 obtain⟨-,b,-,hn,f⟩:=Aw h;obtain⟨t,g,e⟩:=TO.1 hs;obtain⟨j,c,rfl⟩:=CT ByteArray.empty g;obtain⟨u,hu,a⟩:=pT hn f b c (AN d).length 0 [] (by omega) (by omega);have i:(AU d).length=(AN d).length:=by simp[AU]
 refine pV s (AL d) 0 (u,(AU d).getD j []) ?_ (BE a e);rw[Db];refine⟨(AU d).getD j [],gG (BC (by omega)),?_⟩;unfold G7;rw[hu]
theorem SK {d:List AH} (h:A4 d=0) {x:AH} (a:x∈d):0≤BL (AL d) x.1:=G8 h (OY a)
theorem BS {d:List AH} (h:(B1 d).2=0):A4 d=0∧(Au (AU d)).length≤256∧(B1 d).1=AL d:=by
 unfold B1 at h ⊢;split at h
 ·rename_i h1;exact absurd h h1
 ·rename_i h1;split at h
  ·cases h
  ·rename_i a;exact⟨Do h1,by omega,by rw[As h1,As a]⟩
theorem pW {d:List AH} (h:A4 d=0):0<(AL d).length:=by
 obtain⟨-,-,a,-,-⟩:=Aw h;cases d with
 | nil=>cases a
 | cons x d =>
  have:=SK h (x:=x) (by simp);have b:=Ii (AL (x :: d)) x.1;omega
section
attribute [local go_sem] pQ
def A53 (l:List AQ) (i k:Int) (m:Nat):Bool:=(m:Int)==i||(m:Int)==k||!Le l k (m:Int)||!Le l (m:Int) i
def tV (l:List AQ) (i k:Int) (n:Nat):Bool:=(List.range n).all (A53 l i k)
def tW (l:List AQ) (i:Int) (k:Nat):Bool:=!((k:Int)==i||!Le l (k:Int) i)&&tV l i (k:Int) l.length
def Nq (l:List AQ) (i:Int) (n:Nat):List Int:=((List.range n).filter fun(k:Nat)=>tW l i k).map fun(k:Nat)=>(k:Int)
def XW (l:List AQ) (i:Int):List Int:=Nq l i l.length
theorem l0 (l:List AQ) (i:Int) (n:Nat):Nq l i (n+1)=Nq l i n++if tW l i n=true then [(n:Int)] else []:=by
 unfold Nq;rw[AAe,ABE,AAA]
 congr 1
 rw[AAr,ABT];split<;>rfl
theorem tX (l:List AQ) (i:Int) (n:Nat):(Nq l i n).length≤n:=by
 unfold Nq;rw[f6];exact aT (AAC _ _) (by simp)
theorem tY (l:List AQ) (i k:Int) (n:Nat):tV l i k (n+1)=(tV l i k n&&A53 l i k n):=by
 unfold tV;rw[AAe,ABy];simp
def A0G:Ae:={ ins:=[KK,T3],pre:=fun(l,i,_)=>((0:Int)≤i∧i<(List.length l:Int))∧List.length l≤256∧(∀x∈(l:List AQ),x.2.length≤64),out:=fun(l,i,_)=>[.p Kh (XW l i)] }
theorem A3e:Ao Tryz.prog 65 A0G:=by
 refine fK [0,1,4,5,6,7,8,12,24,28,56] Tryz.func65 Tryz.ntmps65 (AF pR AG) ?_;rintro w0 O0 ⟨l,i,u⟩ c-⟨hi,g,o⟩;have g:l.length≤256:=g;have f:∀x∈(l:List AQ),x.2.length≤100000:=fun x h=>aT (o x h) (by decide);simp only[A0G,AM];repeat'(first|exact trivial|refine eS rfl ?_|refine AB ?_|refine rX c ?_ ?_|refine rC ?_ ?_<;>intro a<;>try(cases a;done))
 refine AJ (ι:={k:Nat//k≤l.length}) (fun k=>⟨[(0,.p KK l),(1,.p T3 i),(5,.sr 60 T3 0 (Nq l i k.1).length),(6,.p (.int .i64) (k.1:Int))],[(60,.arr 3 T3 (Nq l i k.1))]⟩) (fun k=>l.length-k.1) ⟨0,Is _⟩ (AC [(60,.nil)] rfl rfl ?_ ?_) (fun k=>?_)
 ·first|exact eN|refine eM ?_
  rfl
 ·first|exact eN|refine eM ?_
  rfl
 ·obtain⟨k,hk⟩:=k;have hk:k≤l.length:=hk;have q:=tX l i k;have hs:=l0 l i k;simp only;repeat'(first|exact trivial|refine eS rfl ?_|refine AB ?_|refine rX c ?_ ?_|refine rC ?_ ?_<;>intro a<;>try(cases a;done))
  ·intro h;exact⟨by assumption,hi,f⟩
  ·exact eV
  ·have e:k<l.length:=by exact eV
   have b:tW l i k=false:=by
    unfold tW;rw[AAD];left;rw[AAU,iS,tO,OR];exact a
   rw[b,As (by simp),AAa]at hs;refine⟨⟨k+1,by omega⟩,by simp only;omega,AC [(60,.nm 60)] rfl rfl ?_ ?_⟩
   ·simp only[hs];first|exact eN|refine eM ?_
   ·simp only[hs];first|exact eN|refine eM ?_
  ·have e:k<l.length:=by exact eV
   have b:tW l i k=tV l i (k:Int) l.length:=by
    unfold tW;rw[show ((k:Int)==i||!Le l (k:Int) i)=false by
     rw[AAp,AAs,AAU];exact a]
    rfl
   refine AJ (ι:={m:Nat//m≤l.length}) (fun m=>⟨[(0,.p KK l),(1,.p T3 i),(5,.sr 60 T3 0 (Nq l i k).length),(6,.p (.int .i64) (k:Int)),(7,.p .bool (tV l i (k:Int) m.1)),(8,.p (.int .i64) (m.1:Int))],[(60,.arr 3 T3 (Nq l i k))]⟩) (fun m=>l.length-m.1) ⟨0,Is _⟩ (AC [(60,.nm 60)] rfl rfl ?_ ?_) (fun m=>?_)
   ·first|exact eN|refine eM ?_
   ·first|exact eN|refine eM ?_
    rfl
   ·obtain⟨m,j⟩:=m;have j:m≤l.length:=j;have n:=tY l i (k:Int) m;simp only;repeat'(first|exact trivial|refine eS rfl ?_|refine AB ?_|refine rX c ?_ ?_|refine rC ?_ ?_<;>intro a<;>try(cases a;done))
    ·exact⟨fun h=>⟨by assumption,a,f⟩,fun h=>⟨a,hi,f⟩⟩
    ·exact eV
    ·have d:m<l.length:=by exact eV
     refine⟨⟨m+1,by omega⟩,by simp only;omega,AC [(60,.nm 60)] rfl rfl ?_ ?_⟩
     ·first|exact eN|refine eM ?_
     ·simp only[n];unfold A53;first|exact eN|refine eM ?_
    ·simp only[AO];dsimp only[Ty.den]at *;omega
    ·exact eV
    ·have d:m=l.length:=by exact eV
     subst d;rw[b,At a]at hs;refine⟨⟨k+1,by omega⟩,by simp only;omega,AC [(60,.nm 60)] rfl rfl ?_ ?_⟩
     ·simp only[hs];first|exact eN|refine eM ?_
     ·simp only[hs];first|exact eN|refine eM ?_
    ·exact eV
    ·have d:m=l.length:=by exact eV
     subst d;rw[b,As (by rw[a];simp),AAa]at hs;refine⟨⟨k+1,by omega⟩,by simp only;omega,AC [(60,.nm 60)] rfl rfl ?_ ?_⟩
     ·simp only[hs];first|exact eN|refine eM ?_
     ·simp only[hs];first|exact eN|refine eM ?_
  ·have e:k=l.length:=by exact eV
   subst e;refine Gy [60] ?_;exact fI c [.tmp 4] (by unfold XW;exact eR)
end
section
attribute [local go_sem] Pm US Jt
abbrev FV:=ByteArray×ByteArray
abbrev f0V:FV:=(ByteArray.empty,ByteArray.empty)
def v8 (all:List ByteArray) (l:List FV):Nat→List FV→Int
 | _,[]=>0
 | k,x :: r=>if Eo x.1 true=false then 1 else if ((l.take k).any fun y=>Aa y.1 x.1)=true then 4 else if AX all x.2=false then 5 else v8 all l (k+1) r
def Y5 (all:List ByteArray):List AH→Int
 | []=>0
 | x :: l=>if v8 all x.2.2 0 x.2.2≠0 then v8 all x.2.2 0 x.2.2 else Y5 all l
def LJ (d:List AH):Int:=Y5 (AN d) d
theorem A0H (all:List ByteArray) (l:List FV) {k:Nat} (h:k<l.length):v8 all l k (l.drop k)=if Eo (l.getD k f0V).1 true=false then 1 else if ((l.take k).any fun y=>Aa y.1 (l.getD k f0V).1)=true then 4 else if AX all (l.getD k f0V).2=false then 5 else v8 all l (k+1) (l.drop (k+1)):=by
 rw[aS h];have e:l.getD k f0V=l[k]:=by simp[AS,h]
 rw[e];rfl
theorem tZ (all:List ByteArray) (l:List AH) {k:Nat} (h:k<l.length):Y5 all (l.drop k)=if v8 all (l.getD k d0).2.2 0 (l.getD k d0).2.2≠0 then v8 all (l.getD k d0).2.2 0 (l.getD k d0).2.2 else Y5 all (l.drop (k+1)):=by
 rw[aS h];have e:l.getD k d0=l[k]:=by simp[AS,h]
 rw[e];rfl
def l4:Ae:={ ins:=[FC],pre:=fun(d,_)=>List.length d≤256,out:=fun(d,_)=>[.p WA (LJ d)] }
theorem A0I:Ao Tryz.prog 121 l4:=by
 refine fK [0,2,3,4,5,6,7,13,24,33,36,49,57] Tryz.func121 Tryz.ntmps121 (AF XK (AF lH (AF G0 AG))) ?_;rintro w0 O0 ⟨d,u⟩ c ⟨⟨x,v⟩,-⟩ j;have j:d.length≤256:=j;simp only[l4,AM];repeat'(first|exact trivial|refine eS rfl ?_|refine AB ?_|refine rX c ?_ ?_|refine rC ?_ ?_<;>intro a<;>try(cases a;done))
 ·exact aT j (by decide)
 ·have w:LJ d=Y5 (AN d) d:=rfl;rw[w];generalize AN d=all at *;refine AJ (ι:={i:Nat//i≤d.length∧Y5 all (d.drop i)=Y5 all d}) (fun i=>⟨[(0,.p FC d),(3,.p B6 all),(4,.p (.int .i64) (i.1:Int))],[]⟩) (fun i=>d.length-i.1) ⟨0,Is _,rfl⟩ (AC [] rfl rfl ?_ ?_) (fun i=>?_)
  ·first|exact eN|refine eM ?_
  ·first|exact eN|refine eM ?_
  ·obtain⟨i,hi,hf⟩:=i;simp only;repeat'(first|exact trivial|refine eS rfl ?_|refine AB ?_|refine rX c ?_ ?_|refine rC ?_ ?_<;>intro a<;>try(cases a;done))
   ·exact a
   ·have o:i<d.length:=by exact eV
    rw[tZ all d o]at hf;have A:(d.getD i d0).2.2.length≤AO:=(v _ (AD d d0 o)).2.2.1;have z:(List.getD d i (ByteArray.empty,[],[])).2.2=(d.getD i d0).2.2:=rfl;rw[z];generalize (d.getD i d0).2.2=l at *;simp only[AO]at A;refine AJ (ι:={k:Nat//k≤l.length∧v8 all l k (l.drop k)=v8 all l 0 l}) (fun k=>⟨[(0,.p FC d),(3,.p B6 all),(4,.p (.int .i64) (i:Int)),(5,.p aX l),(6,.p (.int .i64) (k.1:Int))],[]⟩) (fun k=>l.length-k.1) ⟨0,Is _,rfl⟩ (AC [] rfl rfl ?_ ?_) (fun k=>?_)
    ·first|exact eN|refine eM ?_
    ·first|exact eN|refine eM ?_
    ·obtain⟨k,hk,b⟩:=k;have r:=fun h:k<l.length=>A0H all l h;simp only;repeat'(first|exact trivial|refine eS rfl ?_|refine AB ?_|refine rX c ?_ ?_|refine rC ?_ ?_<;>intro a<;>try(cases a;done))
     ·exact a
     ·have e:k<l.length:=by exact eV
      rw[r e,At a]at b;rw[←b,At (by decide)]at hf;exact fI c [.tmp 2] (by rw[←hf];exact eR)
     ·have e:k<l.length:=by exact eV
      have q:(k:Int)<(l.length:Int):=If.2 e;rw[r e,As (by rw[a];simp)]at b;refine AJ (ι:={m:Nat//m≤k∧((l.take m).any fun y=>Aa y.1 (l.getD k f0V).1)=false}) (fun m=>⟨[(0,.p FC d),(3,.p B6 all),(4,.p (.int .i64) (i:Int)),(5,.p aX l),(6,.p (.int .i64) (k:Int)),(7,.p (.int .i64) (m.1:Int))],[]⟩) (fun m=>k-m.1) ⟨0,Is _,rfl⟩ (AC [] rfl rfl ?_ ?_) (fun m=>?_)
      ·first|exact eN|refine eM ?_
      ·first|exact eN|refine eM ?_
      ·obtain⟨m,B,g⟩:=m;have s:=fun h:m<l.length=>M6 l f0V (fun y=>Aa y.1 (l.getD k f0V).1) h;simp only;repeat'(first|exact trivial|refine eS rfl ?_|refine AB ?_|refine rX c ?_ ?_|refine rC ?_ ?_<;>intro a<;>try(cases a;done))
       ·have h1:(m:Int)<(k:Int):=a;exact⟨by exact eV,q⟩
       ·have f:m<k:=If.1 (by assumption);have n:=s (by omega);have t:((l.take k).any fun y=>Aa y.1 (l.getD k f0V).1)=true:=by
         rw[TO];exact⟨l.getD m f0V,by
          rw[ABs];refine⟨m,by omega,?_⟩;simp[AS,show m<l.length by omega],a⟩
        rw[At t]at b;rw[←b,At (by decide)]at hf;exact fI c [.tmp 2] (by rw[←hf];exact eR)
       ·omega
       ·have f:m<k:=If.1 (by assumption);have n:=s (by omega);refine⟨⟨m+1,by omega,?_⟩,by simp only;omega,AC [] rfl rfl ?_ ?_⟩
        ·rw[n,g];exact a
        ·first|exact eN|refine eM ?_
        ·first|exact eN|refine eM ?_
       ·exact q
       ·have f:m=k:=by omega
        subst f;rw[As (by rw[g];simp),At a]at b;rw[←b,At (by decide)]at hf;exact fI c [.tmp 2] (by rw[←hf];exact eR)
       ·have:=x;simp only[AO]at this;omega
       ·have f:m=k:=by omega
        subst f;rw[As (by rw[g];simp),As (by rw[a];simp)]at b;refine⟨⟨m+1,by omega,b⟩,by simp only;omega,AC [] rfl rfl ?_ ?_⟩
        ·first|exact eN|refine eM ?_
        ·first|exact eN|refine eM ?_
     ·omega
     ·have e:l.drop k=[]:=IF (gO.1 a);rw[e]at b;rw[←b,As (by simp[v8])]at hf;refine⟨⟨i+1,by omega,hf⟩,by simp only;omega,AC [] rfl rfl ?_ ?_⟩
      ·first|exact eN|refine eM ?_
      ·first|exact eN|refine eM ?_
   ·have e:d.drop i=[]:=IF (by exact eV);rw[e]at hf;exact fI c [.tmp 2] (by rw[←hf];first|exact eR|refine Ym ?_;rfl)
end
section
attribute [local go_sem] Yx Yo ML cs0
def Hc (s:ByteArray) (o:List ByteArray) (x:AH):List ByteArray:=if (DG x s).2=true then EW o x.1 else o
def FW (d:List AH) (s:ByteArray):List ByteArray:=d.foldl (Hc s) []
theorem l5 (s:ByteArray) (d:List AH) (k:Nat):(FW (d.take k) s).length≤k:=by
 have key:∀(l:List AH) (o:List ByteArray),(l.foldl (Hc s) o).length≤o.length+l.length:=by
  intro l;induction l with
  | nil=>intro o;simp
  | cons x l b =>
   intro o;have h1:=b (Hc s o x);have a:(Hc s o x).length≤o.length+1:=by
    unfold Hc;split
    ·exact MJ o x.1
    ·omega
   simp only[Rp,Of];omega
 have h1:=key (d.take k) [];have a:=AAt k d;unfold FW;simp only[AAN]at h1;omega
def Dd (d:List AH) (s:ByteArray):ByteArray×Bool:=if (Ay d (FW d s)).length=1 then ((Ay d (FW d s)).getD 0 ByteArray.empty,true) else (ByteArray.empty,false)
def Y6:Ae:={ ins:=[FC,T9],pre:=fun(d,_,_)=>Pn d∧List.length d≤256,out:=fun(d,s,_)=>[.p T9 (Dd d s).1,.p .bool (Dd d s).2] }
theorem gH:Ao Tryz.prog 104 Y6:=by
 refine fK [0,1,4,5,6,7,9,10,14,26,39] Tryz.func104 Tryz.ntmps104 (AF fY (AF RA (AF UX AG))) ?_;rintro w0 O0 ⟨d,s,u⟩ c-⟨l,f⟩;have f:d.length≤256:=f;simp only[Y6,AM];repeat'(first|exact trivial|refine eS rfl ?_|refine AB ?_|refine rX c ?_ ?_|refine rC ?_ ?_<;>intro a<;>try(cases a;done))
 refine AJ (ι:={i:Nat//i≤d.length}) (fun i=>⟨[(0,.p FC d),(1,.p T9 s),(6,.p B6 (FW (d.take i.1) s)),(7,.p (.int .i64) (i.1:Int))],[]⟩) (fun i=>d.length-i.1) ⟨0,Is _⟩ (AC [] rfl rfl ?_ ?_) (fun i=>?_)
 ·first|exact eN|refine eM ?_
 ·first|exact eN|refine eM ?_
  rfl
 ·obtain⟨i,hi⟩:=i;have hi:i≤d.length:=hi;have hn:=l5 s d i;have hs:=fun h:i<d.length=>E1 (Hc s) d d0 [] h;have j:∀e,FW e s=e.foldl (Hc s) []:=fun _=>rfl;rw[←j,←j]at hs;unfold Hc at hs;simp only;repeat'(first|exact trivial|refine eS rfl ?_|refine AB ?_|refine rX c ?_ ?_|refine rC ?_ ?_<;>intro a<;>try(cases a;done))
  ·exact a
  ·exact⟨by assumption,by omega⟩
  ·exact eV
  ·have b:i<d.length:=by exact eV
   have e:=hs b;rw[At a]at e;refine⟨⟨i+1,by omega⟩,by simp only;omega,AC [] rfl rfl ?_ ?_⟩
   ·first|exact eN|refine eM ?_
   ·simp only[e];first|exact eN|refine eM ?_
  ·exact eV
  ·have b:i<d.length:=by exact eV
   have e:=hs b;rw[As (by rw[a];simp)]at e;refine⟨⟨i+1,by omega⟩,by simp only;omega,AC [] rfl rfl ?_ ?_⟩
   ·first|exact eN|refine eM ?_
   ·simp only[e];first|exact eN|refine eM ?_
  ·exact⟨l,f,by omega⟩
  ·have b:d.take i=d:=BY (by exact eV);rw[b]at a ⊢;have h1:Dd d s=(ByteArray.empty,false):=by
    unfold Dd;rw[As (by omega)]
   exact fI c [.tmp 4,.tmp 5] (by rw[h1];first|exact eR|refine Ym ?_;first|rfl|exact⟨rfl,rfl⟩)
  ·have g:((Ay d (FW (d.take i) s)).length:Int)=1:=by simpa using a
   have k:(0:Int)<((Ay d (FW (d.take i) s)).length:Int):=by rw[g];decide
   exact k
  ·have b:d.take i=d:=BY (by exact eV);rw[b]at a ⊢;have g:((Ay d (FW d s)).length:Int)=1:=by simpa using a
   have h1:Dd d s=((Ay d (FW d s)).getD 0 ByteArray.empty,true):=by
    unfold Dd;rw[At (by omega)]
   exact fI c [.tmp 4,.tmp 5] (by rw[h1];exact eR)
end
section
attribute [local go_sem] Yx S8 pQ A0n
def KP (l:List AQ) (t:Int) (s:ByteArray) (o:List Int×Bool) (x:AH):List Int×Bool :=
 if (!(DG x s).2||!Le l (BL l x.1) t)=true then o else (Ed o.1 (l.getD (BL l (DG x s).1).toNat c0).2,true)
def FB (d:List AH) (l:List AQ) (t:Int) (s:ByteArray):List Int×Bool:=d.foldl (KP l t s) ((l.getD 0 c0).2,false)
def l6 (d:List AH) (l:List AQ):Prop:=(∀x∈d,0≤BL l x.1)∧∀x∈d,∀y∈x.2.2,0≤BL l y.2
theorem gI (s:ByteArray):∀(l:List (ByteArray×ByteArray)),(fX s l).2=true→∃y∈l,y.2=(fX s l).1
 | [],h=>by cases h
 | x :: l,h=>by
  simp only[fX]at h ⊢;split at h
  ·rename_i h1;rw[At h1];exact⟨x,by simp,rfl⟩
  ·rename_i h1;rw[As h1];obtain⟨y,a,e⟩:=gI s l h;exact⟨y,by simp[a],e⟩
theorem l6.value {d:List AH} {l:List AQ} (h:l6 d l) {x:AH} (b:x∈d) {s:ByteArray} (a:(DG x s).2=true):0≤BL l (DG x s).1:=by
 obtain⟨y,c,e⟩:=gI s x.2.2 a;have:=h.2 x b y c;rw[e]at this;exact this
theorem A0J {l:List AQ} (t:Int) (s:ByteArray) (x:AH) {o:List Int×Bool} (h:o.1.length≤64):(KP l t s o x).1.length≤64:=by
 unfold KP;split
 ·exact h
 ·exact aT (fZ _ _) h
theorem Uh {l:List AQ} (t:Int) (s:ByteArray):∀(d:List AH) {o:List Int×Bool},o.1.length≤64→(d.foldl (KP l t s) o).1.length≤64
 | [],_,h=>h
 | x :: d,_,h=>by rw[Rp];exact Uh t s d (A0J t s x h)
theorem gJ (s:ByteArray):∀(l:List AQ) (k:Nat),MM s k l<((k+l.length:Nat):Int)
 | [],k=>by simp only[MM];omega
 | x :: l,k=>by
  simp only[MM];split
  ·simp only[Of];omega
  ·have:=gJ s l (k+1);simp only[Of];omega
theorem SL (l:List AQ) (s:ByteArray):BL l s<(l.length:Int):=by
 have:=gJ s l 0;rw[AAM]at this;exact this
def A3g:Ae:={ ins:=[FC,KK,T3,T9],pre:=fun(d,l,t,_,_)=>l6 d l∧((0:Int)≤t∧t<(List.length l:Int))∧List.length l≤256∧(∀x∈(l:List AQ),x.2.length≤64),out:=fun(d,l,t,s,_)=>[.p EV (FB d l t s).1,.p .bool (FB d l t s).2] }
theorem A0K:Ao Tryz.prog 95 A3g:=by
 refine fK [0,1,2,3,8,9,10,11,12,13,14,22,48] Tryz.func95 Tryz.ntmps95 (AF fY (AF XO (AF pR (AF A0o AG)))) ?_;rintro w0 O0 ⟨d,l,t,s,u⟩ f ⟨⟨A,G⟩,-⟩ ⟨r,j,n,w⟩;have n:l.length≤256:=n;have F:∀x∈(l:List AQ),x.2.length≤100000:=fun x h=>aT (w x h) (by decide);have q:0<List.length l:=If.1 (ACr j.1 j.2);simp only[AO]at A;simp only[A3g,AM];repeat'(first|exact trivial|refine eS rfl ?_|refine AB ?_|refine rX f ?_ ?_|refine rC ?_ ?_<;>intro a<;>try(cases a;done))
 ·exact If.2 q
 ·have m:FB d l t s=d.foldl (KP l t s) ((l.getD 0 c0).2,false):=rfl;have y:(l.getD 0 c0).2.length≤64:=w _ (AD l c0 q);have z:(List.getD l 0 (ByteArray.empty,[])).2=(l.getD 0 c0).2:=rfl;rw[z];generalize (l.getD 0 c0).2=c at *;refine AJ (ι:={i:Nat//i≤d.length}) (fun i=>⟨[(0,.p FC d),(1,.p KK l),(2,.p T3 t),(3,.p T9 s),(10,.p .bool ((d.take i.1).foldl (KP l t s) (c,false)).2),(11,.p EV ((d.take i.1).foldl (KP l t s) (c,false)).1),(12,.p (.int .i64) (i.1:Int))],[]⟩) (fun i=>d.length-i.1) ⟨0,Is _⟩ (AC [] rfl rfl ?_ ?_) (fun i=>?_)
  ·first|exact eN|refine eM ?_
  ·first|exact eN|refine eM ?_
   exact⟨rfl,rfl⟩
  ·obtain⟨i,hi⟩:=i;have hi:i≤d.length:=hi;have B:=Uh (l:=l) t s (d.take i) (o:=(c,false)) y;have hs:=fun h:i<d.length=>E1 (KP l t s) d d0 (c,false) h;have E:=fun h:i<d.length=>r.1 _ (AD d d0 h);have D:=fun(h:i<d.length) (g:(DG (d.getD i d0) s).2=true)=>r.value (AD d d0 h) g;have k:∀o x,KP l t s o x=(if (!(DG x s).2||!Le l (BL l x.1) t)=true then o else (Ed o.1 (l.getD (BL l (DG x s).1).toNat c0).2,true)):=fun _ _=>rfl;generalize v:(d.take i).foldl (KP l t s) (c,false)=o at *;simp only;repeat'(first|exact trivial|refine eS rfl ?_|refine AB ?_|refine rX f ?_ ?_|refine rC ?_ ?_<;>intro a<;>try(cases a;done))
   ·exact a
   ·have b:i<d.length:=If.1 a;exact⟨fun _=>a,fun _=>⟨⟨E b,SL _ _⟩,j,F⟩⟩
   ·exact eV
   ·have b:i<d.length:=If.1 (by assumption);have e:=hs b;rw[k,At (by rw[iS,OR,OR];exact a)]at e;refine⟨⟨i+1,by omega⟩,by simp only;omega,AC [] rfl rfl ?_ ?_⟩
    ·first|exact eN|refine eM ?_
    ·first|exact eN|refine eM ?_
     rw[e];exact⟨rfl,rfl⟩
   ·have b:i<d.length:=If.1 (by assumption);exact⟨⟨D b a.1,SL _ _⟩,aT B (by decide)⟩
   ·exact eV
   ·have b:i<d.length:=If.1 (by assumption);have e:=hs b;have C:¬(!(DG (d.getD i d0) s).2||!Le l (BL l (d.getD i d0).1) t)=true:=by
     rw[iS,OR,OR];rintro (h|h)
     ·rw[show (DG (d.getD i d0) s).2=true from a.1]at h;cases h
     ·rw[show Le l (BL l (d.getD i d0).1) t=true from a.2]at h;cases h
    rw[k,As C]at e;refine⟨⟨i+1,by omega⟩,by simp only;omega,AC [] rfl rfl ?_ ?_⟩
    ·first|exact eN|refine eM ?_
    ·first|exact eN|refine eM ?_
     rw[e];exact⟨rfl,rfl⟩
   ·have b:d.take i=d:=BY (gO.1 a);rw[b]at v;rw[v]at m;exact fI f [.tmp 8,.tmp 9] (by rw[m];exact eR)
end
theorem SM:∀ {l:List AH},MF l=0→∀x∈l,x.2.1.length≤256∧x.2.2.length≤256
 | [],_,x,a=>by cases a
 | y :: l,h,x,a=>by
  simp only[MF]at h;split at h
  ·cases h
  ·rename_i h1;rcases By.1 a with rfl|a
   ·exact⟨by omega,by omega⟩
   ·exact SM h x a
theorem LK {d:List AH} (h:A4 d=0):∀x∈d,x.2.1.length≤256∧x.2.2.length≤256:=by
 have h1:FA d=0:=by
  unfold A4 at h;split at h
  ·rename_i h1;exact absurd h h1
  ·rename_i h1;exact Do h1
 unfold FA at h1;split at h1
 ·cases h1
 ·exact SM h1
theorem Oc {d:List AH} (h:A4 d=0):∀x∈AL d,x.2.length≤64:=by
 intro x e;obtain⟨-,a,-⟩:=Aw h;obtain⟨b,c,rfl⟩:=Db.1 e;exact QA (Ob a) b c
theorem gK {all:List ByteArray} {l:List FV}:∀ {r:List FV} {k:Nat},v8 all l k r=0→∀y∈r,AX all y.2=true
 | [],_,_,y,a=>by cases a
 | x :: r,k,h,y,a=>by
  simp only[v8]at h;split at h
  ·cases h
  ·split at h
   ·cases h
   ·split at h
    ·cases h
    ·rename_i b;rcases By.1 a with rfl|a
     ·simpa using b
     ·exact gK h y a
theorem XX {all:List ByteArray}:∀ {l:List AH},Y5 all l=0→∀x∈l,∀y∈x.2.2,AX all y.2=true
 | [],_,x,a=>by cases a
 | z :: l,h,x,a=>by
  simp only[Y5]at h;split at h
  ·rename_i h1;exact absurd h h1
  ·rename_i h1;rcases By.1 a with rfl|a
   ·exact gK (Do h1)
   ·exact XX h x a
theorem QC {d:List AH} (h:A4 d=0) (b:LJ d=0):l6 d (AL d) :=
 ⟨fun x a=>SK h a,fun x a y c=>G8 h (XX b x a y c)⟩
section
attribute [local go_sem] RK UZ l4 Y6 A3g
def LL (d:List AH) (l:List AQ) (t:Nat) (s:ByteArray):Bool:=(FB d l (t:Int) s).2&&((FB d l (t:Int) s).1.length:Int)==0
def Y7 (d:List AH) (l:List AQ) (f:List ByteArray) (t:Nat):Bool:=f.any (LL d l t)
def Ij (d:List AH) (l:List AQ) (f:List ByteArray) (n:Nat):Bool:=(List.range n).any (Y7 d l f)
theorem gL (d:List AH) (l:List AQ) (f:List ByteArray) (n:Nat):Ij d l f (n+1)=(Ij d l f n||Y7 d l f n):=by
 unfold Ij;rw[AAe,ABU];simp
def Av (d:List AH):Int :=
 if (B1 d).2≠0 then (B1 d).2 else if 64<(BM d).length then 7 else if LJ d≠0 then LJ d else
 if ((BM d).all fun s=>(Dd d s).2)=false then 10 else if Ij d (B1 d).1 (BM d) (B1 d).1.length=true then 11 else 0
def S9:Ae:={ ins:=[FC],pre:=fun _=>True,out:=fun(d,_)=>[.p WA (Av d)] }
theorem XY:Ao Tryz.prog 93 S9:=by
 refine fK [0,2,3,4,5,6,7,9,10,11,12,13,20,26,30,35,48,52,58,77] Tryz.func93 Tryz.ntmps93 (AF QB (AF Ua (AF A0I (AF gH (AF A0K AG))))) ?_;rintro w0 O0 ⟨d,u⟩ b - -;simp only[S9,AM];repeat'(first|exact trivial|refine eS rfl ?_|refine AB ?_|refine rX b ?_ ?_|refine rC ?_ ?_<;>intro a<;>try(cases a;done))
 ·have h1:Av d=(B1 d).2:=by unfold Av;rw[At a]
  exact fI b [.tmp 2] (by rw[h1];exact eR)
 ·have c:(B1 d).2=0:=by simpa using a
  obtain⟨e,-,-⟩:=BS c;obtain⟨-,r,-⟩:=Aw e;exact⟨r,fun x L=>(LK e x L).2⟩
 ·have c:(B1 d).2=0:=by simpa using ‹((B1 d).2 != 0)=false›
  have h1:Av d=7:=by
   unfold Av;rw[As (by rw[c];simp),At (by omega)]
  exact fI b [.tmp 2] (by rw[h1];exact eR)
 ·have c:(B1 d).2=0:=by simpa using ‹((B1 d).2 != 0)=false›
  obtain⟨e,-,-⟩:=BS c;exact(Aw e).2.1
 ·have c:(B1 d).2=0:=by simpa using ‹((B1 d).2 != 0)=false›
  have h1:Av d=LJ d:=by
   unfold Av;rw[As (by rw[c];simp),As (by omega),At a]
  exact fI b [.tmp 2] (by rw[h1];exact eR)
 ·have c:(B1 d).2=0:=by simpa using ‹((B1 d).2 != 0)=false›
  have v:LJ d=0:=by simpa using a
  obtain⟨e,C,B⟩:=BS c;obtain⟨H,r,-⟩:=Aw e;have E:=QC e v;have K:=Oc e;have M:=pW e;have D:(AL d).length≤256:=by rw[Ih];exact C
  have g:Av d=if ((BM d).all fun s=>(Dd d s).2)=false then 10 else if Ij d (B1 d).1 (BM d) (B1 d).1.length=true then 11 else 0:=by
   unfold Av;rw[As (by rw[c];simp),As (by omega),As (by rw[v];simp)]
  rw[B]at g ⊢;generalize AL d=l at *;generalize BM d=f at *;refine AJ (ι:={i:Nat//i≤f.length∧((f.take i).all fun s=>(Dd d s).2)=true}) (fun i=>⟨[(0,.p FC d),(3,.p KK l),(5,.p B6 f),(7,.p (.int .i64) (i.1:Int))],[]⟩) (fun i=>f.length-i.1) ⟨0,Is _,rfl⟩ (AC [] rfl rfl ?_ ?_) (fun i=>?_)
  ·first|exact eN|refine eM ?_
  ·first|exact eN|refine eM ?_
  ·obtain⟨i,hi,n⟩:=i;have G:=fun h:i<f.length=>Gc f ByteArray.empty (fun s=>(Dd d s).2) h;simp only;repeat'(first|exact trivial|refine eS rfl ?_|refine AB ?_|refine rX b ?_ ?_|refine rC ?_ ?_<;>intro a<;>try(cases a;done))
   ·exact⟨a,H,r⟩
   ·have j:i<f.length:=If.1 (by assumption);have z:(f.all fun s=>(Dd d s).2)=false:=by
     rw[AC2];intro h;have:=GO.1 h _ (AD f ByteArray.empty j);rw[show (Dd d (f.getD i ByteArray.empty)).2=false from a]at this;cases this
    rw[At z]at g;exact fI b [.tmp 2] (by rw[g];exact eR)
   ·omega
   ·have j:i<f.length:=If.1 (by assumption);refine⟨⟨i+1,j,?_⟩,by simp only;omega,AC [] rfl rfl ?_ ?_⟩
    ·rw[G j,n];exact a
    ·first|exact eN|refine eM ?_
    ·first|exact eN|refine eM ?_
   ·have j:f.take i=f:=BY (gO.1 a);rw[j]at n;rw[As (by rw[n];simp)]at g;refine AJ (ι:={t:Nat//t≤l.length∧Ij d l f t=false}) (fun t=>⟨[(0,.p FC d),(3,.p KK l),(5,.p B6 f),(10,.p (.int .i64) (t.1:Int))],[]⟩) (fun t=>l.length-t.1) ⟨0,Is _,rfl⟩ (AC [] rfl rfl ?_ ?_) (fun t=>?_)
    ·first|exact eN|refine eM ?_
    ·first|exact eN|refine eM ?_
    ·obtain⟨t,N,y⟩:=t;have J:=gL d l f t;simp only;repeat'(first|exact trivial|refine eS rfl ?_|refine AB ?_|refine rX b ?_ ?_|refine rC ?_ ?_<;>intro a<;>try(cases a;done))
     ·have w:t<l.length:=If.1 a;refine AJ (ι:={k:Nat//k≤f.length∧(f.take k).any (LL d l t)=false}) (fun k=>⟨[(0,.p FC d),(3,.p KK l),(5,.p B6 f),(10,.p (.int .i64) (t:Int)),(11,.p (.int .i64) (k.1:Int))],[]⟩) (fun k=>f.length-k.1) ⟨0,Is _,rfl⟩ (AC [] rfl rfl ?_ ?_) (fun k=>?_)
      ·first|exact eN|refine eM ?_
      ·first|exact eN|refine eM ?_
      ·obtain⟨k,hk,o⟩:=k;have F:=fun h:k<f.length=>M6 f ByteArray.empty (LL d l t) h;simp only;repeat'(first|exact trivial|refine eS rfl ?_|refine AB ?_|refine rX b ?_ ?_|refine rC ?_ ?_<;>intro a<;>try(cases a;done))
       ·exact⟨a,E,by assumption,D,K⟩
       ·have m:k<f.length:=If.1 (by assumption);have q:LL d l t (f.getD k ByteArray.empty)=true:=by
         unfold LL;rw[AT,tO];exact a
        have A:Ij d l f l.length=true:=by
         unfold Ij;rw[TO];exact⟨t,nO.2 w,Gz f ByteArray.empty _ m q⟩
        rw[At A]at g;exact fI b [.tmp 2] (by rw[g];exact eR)
       ·omega
       ·have m:k<f.length:=If.1 (by assumption);have q:LL d l t (f.getD k ByteArray.empty)=false:=by
         rw[AC2];unfold LL;intro h;rw[AT,tO]at h;exact a h.1 h.2
        refine⟨⟨k+1,m,?_⟩,by simp only;omega,AC [] rfl rfl ?_ ?_⟩
        ·rw[F m,o,q];rfl
        ·first|exact eN|refine eM ?_
        ·first|exact eN|refine eM ?_
       ·omega
       ·have m:f.take k=f:=BY (gO.1 a);rw[m]at o;refine⟨⟨t+1,w,?_⟩,by simp only;omega,AC [] rfl rfl ?_ ?_⟩
        ·rw[J,y];exact o
        ·first|exact eN|refine eM ?_
        ·first|exact eN|refine eM ?_
     ·have I:t=l.length:=by exact eV
      subst I;rw[As (by rw[y];simp)]at g;exact fI b [.tmp 2] (by rw[g];exact eR)
end
section
attribute [local go_sem] S9 RK UZ Y6 S8
abbrev A0L:=ByteArray×Int
theorem B9 {d:List AH} (h:Av d=0):(B1 d).2=0∧(BM d).length≤64∧LJ d=0:=by
 unfold Av at h;split at h
 ·rename_i h1;exact absurd h h1
 ·rename_i h1;split at h
  ·cases h
  ·rename_i b;split at h
   ·rename_i a;exact absurd h a
   ·rename_i a;exact⟨Do h1,by omega,Do a⟩
def QD (d:List AH) (s:ByteArray):A0L:=(s,BL (AL d) (Dd d s).1)
def EM (d:List AH):List A0L×Int:=if Av d≠0 then ([],Av d) else ((BM d).map (QD d),0)
theorem FL {α β:Type} (f:α→β) (l:List α) (d:α) {k:Nat} (h:k<l.length):(l.take (k+1)).map f=(l.take k).map f++[f (l.getD k d)]:=by
 rw[Ax l d h,AAA];rfl
theorem Y8 {α β:Type} (f:α→β) (l:List α) {k:Nat} (h:k≤l.length):((l.take k).map f).length=k:=by simp[h]
def RL:Ae:={ ins:=[FC],pre:=fun _=>True,out:=fun(d,_)=>[.p WB (EM d).1,.p WA (EM d).2] }
theorem gM:Ao Tryz.prog 66 RL:=by
 refine fK [0,2,3,4,5,7,8,9,10,15,27] Tryz.func66 Tryz.ntmps66 (AF XY (AF QB (AF Ua (AF gH (AF XO AG))))) ?_;rintro w0 O0 ⟨d,u⟩ g - -;simp only[RL,AM];repeat'(first|exact trivial|refine eS rfl ?_|refine AB ?_|refine rX g ?_ ?_|refine rC ?_ ?_<;>intro a<;>try(cases a;done))
 ·have h1:EM d=([],Av d):=by unfold EM;rw[At a]
  exact fI g [.tmp 2,.tmp 3] (by rw[h1];exact eR)
 ·have c:Av d=0:=by simpa using a
  obtain⟨k,-,-⟩:=B9 c;obtain⟨b,-,-⟩:=BS k;exact⟨(Aw b).2.1,fun x r=>(LK b x r).2⟩
 ·have c:Av d=0:=by simpa using a
  obtain⟨k,s,-⟩:=B9 c;obtain⟨b,-,m⟩:=BS k;obtain⟨q,l,-⟩:=Aw b;have o:EM d=((BM d).map (QD d),0):=by unfold EM;rw[As (by rw[c];simp)]
  rw[m];generalize BM d=f at *;refine AJ (ι:={i:Nat//i≤f.length}) (fun i=>⟨[(0,.p FC d),(5,.p KK (AL d)),(7,.p B6 f),(8,.sr 49 yF 0 ((f.take i.1).map (QD d)).length),(9,.p (.int .i64) (i.1:Int))],[(49,.arr 116 yF ((f.take i.1).map (QD d)))]⟩) (fun i=>f.length-i.1) ⟨0,Is _⟩ (AC [(49,.nil)] rfl rfl ?_ ?_) (fun i=>?_)
  ·first|exact eN|refine eM ?_
  ·first|exact eN|refine eM ?_
  ·obtain⟨i,hi⟩:=i;have n:=Y8 (QD d) f hi;have hs:=fun h:i<f.length=>FL (QD d) f ByteArray.empty h;simp only;repeat'(first|exact trivial|refine eS rfl ?_|refine AB ?_|refine rX g ?_ ?_|refine rC ?_ ?_<;>intro a<;>try(cases a;done))
   ·exact⟨a,q,l⟩
   ·refine⟨a,?_⟩;rw[n];simp only[AO];omega
   ·omega
   ·have j:i<f.length:=If.1 a;have e:=hs j;refine⟨⟨i+1,j⟩,by simp only;omega,AC [(49,.nm 49)] rfl rfl ?_ ?_⟩
    ·simp only[e];first|exact eN|refine eM ?_
     rfl
    ·simp only[e];first|exact eN|refine eM ?_
   ·have j:f.take i=f:=BY (gO.1 a);rw[j];refine Gy [49] ?_;exact fI g [.tmp 2,.tmp 3] (by rw[o];exact eR)
end
section
attribute [local go_sem] S9 RK UZ A3g lO
def Sk (d:List AH) (l:List AQ) (f:List ByteArray) (t:Nat) (n:Nat):List (Int×Int) :=
 ((List.range n).filter fun(i:Nat)=>(FB d l (t:Int) (f.getD i ByteArray.empty)).2).map fun(i:Nat)=>((i:Int),HP l (FB d l (t:Int) (f.getD i ByteArray.empty)).1)
def KQ (d:List AH) (l:List AQ) (f:List ByteArray) (n:Nat):List (List (Int×Int)):=(List.range n).map fun t=>Sk d l f t f.length
def A8 (d:List AH):List (List (Int×Int))×Int:=if Av d≠0 then ([],Av d) else (KQ d (AL d) (BM d) (AL d).length,0)
theorem XZ (d:List AH) (l:List AQ) (f:List ByteArray) (t n:Nat):Sk d l f t (n+1)=Sk d l f t n++if (FB d l (t:Int) (f.getD n ByteArray.empty)).2=true then [((n:Int),HP l (FB d l (t:Int) (f.getD n ByteArray.empty)).1)] else []:=by
 unfold Sk;rw[AAe,ABE,AAA]
 congr 1
 rw[AAr,ABT];split<;>rfl
theorem A0M (d:List AH) (l:List AQ) (f:List ByteArray) (t n:Nat):(Sk d l f t n).length≤n:=by
 unfold Sk;rw[f6];exact aT (AAC _ _) (by simp)
theorem l7 (d:List AH) (l:List AQ) (f:List ByteArray) (n:Nat):KQ d l f (n+1)=KQ d l f n++[Sk d l f n f.length]:=by simp[KQ,AAe]
theorem Xa (d:List AH) (l:List AQ) (f:List ByteArray) (n:Nat):(KQ d l f n).length=n:=by simp[KQ]
theorem A0N {d:List AH} {l:List AQ} (h:∀x∈l,x.2.length≤64) (t:Int) (s:ByteArray):(FB d l t s).1.length≤64:=by
 unfold FB;refine Uh t s d ?_;rw[AS];cases hh:l[0]? with
 | none=>simp
 | some x=>exact h x (AAf hh)
def Ui:Ae:={ ins:=[FC],pre:=fun _=>True,out:=fun(d,_)=>[.p T45 (A8 d).1,.p WA (A8 d).2] }
theorem l8:Ao Tryz.prog 63 Ui:=by
 refine fK [0,2,3,4,5,7,8,9,10,11,12,13,17,29,35,49] Tryz.func63 Tryz.ntmps63 (AF XY (AF QB (AF Ua (AF A0K (AF A0x AG))))) ?_;rintro w0 O0 ⟨d,u⟩ e - -;simp only[Ui,AM];repeat'(first|exact trivial|refine eS rfl ?_|refine AB ?_|refine rX e ?_ ?_|refine rC ?_ ?_<;>intro a<;>try(cases a;done))
 ·have h1:A8 d=([],Av d):=by unfold A8;rw[At a]
  exact fI e [.tmp 2,.tmp 3] (by rw[h1];exact eR)
 ·have h:Av d=0:=by simpa using a
  obtain⟨m,-,-⟩:=B9 h;obtain⟨b,-,-⟩:=BS m;exact⟨(Aw b).2.1,fun x z=>(LK b x z).2⟩
 ·have h:Av d=0:=by simpa using a
  obtain⟨m,B,o⟩:=B9 h;obtain⟨b,j,r⟩:=BS m;obtain⟨D,A,-⟩:=Aw b;have y:A8 d=(KQ d (AL d) (BM d) (AL d).length,0):=by unfold A8;rw[As (by rw[h];simp)]
  have w:=QC b o;have n:=Oc b;have v:(AL d).length≤256:=by rw[Ih];exact j
  rw[r];generalize AL d=l at *;generalize BM d=f at *;have q:=fun t s=>A0N (d:=d) n t s;refine AJ (ι:={t:Nat//t≤l.length}) (fun t=>⟨[(0,.p FC d),(5,.p KK l),(7,.p B6 f),(8,.sr 61 jZ 0 (KQ d l f t.1).length),(9,.p (.int .i64) (t.1:Int))],[(61,.arr 82 jZ (KQ d l f t.1))]⟩) (fun t=>l.length-t.1) ⟨0,Is _⟩ (AC [(61,.nil)] rfl rfl ?_ ?_) (fun t=>?_)
  ·first|exact eN|refine eM ?_
   rfl
  ·first|exact eN|refine eM ?_
   rfl
  ·obtain⟨t,E⟩:=t;have j:=Xa d l f t;have hs:=l7 d l f t;simp only;repeat'(first|exact trivial|refine eS rfl ?_|refine AB ?_|refine rX e ?_ ?_|refine rC ?_ ?_<;>intro a<;>try(cases a;done))
   ·refine AJ (ι:={i:Nat//i≤f.length}) (fun i=>⟨[(0,.p FC d),(5,.p KK l),(7,.p B6 f),(8,.sr 61 jZ 0 (KQ d l f t).length),(9,.p (.int .i64) (t:Int)),(10,.sr 57 T87 0 (Sk d l f t i.1).length),(11,.p (.int .i64) (i.1:Int))],[(61,.arr 82 jZ (KQ d l f t)),(57,.arr 87 T87 (Sk d l f t i.1))]⟩) (fun i=>f.length-i.1) ⟨0,Is _⟩ (AC [(61,.nm 61),(57,.nil)] rfl rfl ?_ ?_) (fun i=>?_)
    ·first|exact eN|refine eM ?_
     rfl
    ·first|exact eN|refine eM ?_
     rfl
    ·obtain⟨i,hi⟩:=i;have C:=A0M d l f t i;have c:=XZ d l f t i;simp only;repeat'(first|exact trivial|refine eS rfl ?_|refine AB ?_|refine rX e ?_ ?_|refine rC ?_ ?_<;>intro a<;>try(cases a;done))
     ·exact⟨a,w,by assumption,v,n⟩
     ·refine⟨aT (q _ _) (by decide),?_⟩;simp only[AO];omega
     ·omega
     ·have g:i<f.length:=If.1 (by assumption);rw[At a]at c;refine⟨⟨i+1,g⟩,by simp only;omega,AC [(61,.nm 61),(57,.nm 57)] rfl rfl ?_ ?_⟩
      ·simp only[c];first|exact eN|refine eM ?_
      ·simp only[c];first|exact eN|refine eM ?_
     ·omega
     ·have g:i<f.length:=If.1 (by assumption);rw[As (by rw[a];simp),AAa]at c;refine⟨⟨i+1,g⟩,by simp only;omega,AC [(61,.nm 61),(57,.nm 57)] rfl rfl ?_ ?_⟩
      ·simp only[c];first|exact eN|refine eM ?_
      ·simp only[c];first|exact eN|refine eM ?_
     ·rw[j];simp only[AO];omega
     ·omega
     ·have k:t<l.length:=If.1 (by assumption);have g:i=f.length:=by omega
      subst g;refine⟨⟨t+1,k⟩,by simp only;omega,AC [(61,.nm 61)] rfl rfl ?_ ?_⟩
      ·simp only[hs];first|exact eN|refine eM ?_
      ·simp only[hs];first|exact eN|refine eM ?_
   ·have k:t=l.length:=by omega
    subst k;refine Gy [61] ?_;exact fI e [.tmp 2,.tmp 3] (by rw[y];exact eR)
end
section
attribute [local go_sem] cs0
def Lf (l:List ByteArray) (n:Nat):List FV:=(List.range n).map fun k=>(l.getD (2*k) ByteArray.empty,l.getD (2*k+1) ByteArray.empty)
theorem Uj (l:List ByteArray) (n:Nat):Lf l (n+1)=Lf l n++[(l.getD (2*n) ByteArray.empty,l.getD (2*n+1) ByteArray.empty)]:=by simp[Lf,AAe]
theorem Xb (l:List ByteArray) (n:Nat):(Lf l n).length=n:=by simp[Lf]
def Y9 (s:ByteArray):List ByteArray:=if Aa s ByteArray.empty=true then [] else [s]
def GM (n s:ByteArray) (l:List ByteArray):AH:=(n,Y9 s,Lf l (l.length / 2))
def A0O:Ae:={ ins:=[T9,T9,B6],pre:=fun(_,_,l,_)=>List.length l≤1000,out:=fun(n,s,l,_)=>[.p tC (GM n s l)] }
theorem A3h:Ao Tryz.prog 67 A0O:=by
 refine fK [0,1,2,6,7,8,12,20] Tryz.func67 Tryz.ntmps67 AG ?_;rintro w0 O0 ⟨n,s,l,u⟩ b-i;have i:l.length≤1000:=i;simp only[A0O,AM];repeat'(first|exact trivial|refine eS rfl ?_|refine AB ?_|refine rX b ?_ ?_|refine rC ?_ ?_<;>intro a<;>try(cases a;done))
 ·have f:=a;refine Gy [14] ?_;refine AJ (ι:={k:Nat//2*k≤l.length}) (fun k=>⟨[(2,.p B6 l),(6,.bp 6 [] 0),(7,.bp 7 [] 0),(8,.p (.int .i64) ((2*k.1:Nat):Int))],[(6,.box 111 true [.p T9 ByteArray.empty,.raw (.slice none 0 0),.raw (.slice none 0 0)]),(7,.box 111 true [.p T9 n,.p B6 [s],.sr 36 lC 0 (Lf l k.1).length]),(36,.arr 154 lC (Lf l k.1))]⟩) (fun k=>l.length-2*k.1) ⟨0,Is _⟩ (AC [(6,.nm 6),(7,.nm 7),(36,.nil)] rfl rfl ?_ ?_) (fun k=>?_)
  ·first|exact eN|refine eM ?_
   exact⟨rfl,rfl⟩
  ·first|exact eN|refine eM ?_
  ·obtain⟨k,hk⟩:=k;have g:=Xb l k;have d:=Uj l k;simp only;repeat'(first|exact trivial|refine eS rfl ?_|refine AB ?_|refine rX b ?_ ?_|refine rC ?_ ?_<;>intro a<;>try(cases a;done))
   ·exact eV
   ·refine⟨by exact eV,⟨by exact eV,by exact eV⟩,⟨by exact eV,by exact eV⟩,?_⟩;rw[g];simp only[AO];exact eV
   ·exact eV
   ·have c:2*k+1<l.length:=by exact eV
    have e:((2*k:Nat):Int)+1=((2*k+1:Nat):Int):=by omega
    refine⟨⟨k+1,by omega⟩,by simp only;omega,AC [(6,.nm 6),(7,.nm 7),(36,.nm 36)] rfl rfl ?_ ?_⟩
    ·simp only[d];first|exact eN|refine eM ?_
     rw[e];rfl
    ·simp only[d];first|exact eN|refine eM ?_
     show ((2*k:Nat):Int)+2=((2*(k+1):Nat):Int);omega
   ·have c:k=l.length / 2:=by exact eV
    refine Gy [36] ?_;have h:GM n s l=(n,[s],Lf l k):=by
     unfold GM Y9;rw[←c,As (by rw[show Aa s ByteArray.empty=false from f];simp)]
    exact fI b [.cell 6 111] (by rw[h];exact eR)
 ·have f:=a;refine AJ (ι:={k:Nat//2*k≤l.length}) (fun k=>⟨[(2,.p B6 l),(6,.bp 6 [] 0),(7,.bp 7 [] 0),(8,.p (.int .i64) ((2*k.1:Nat):Int))],[(6,.box 111 true [.p T9 ByteArray.empty,.raw (.slice none 0 0),.raw (.slice none 0 0)]),(7,.box 111 true [.p T9 n,.p B6 ([]:List ByteArray),.sr 36 lC 0 (Lf l k.1).length]),(36,.arr 154 lC (Lf l k.1))]⟩) (fun k=>l.length-2*k.1) ⟨0,Is _⟩ (AC [(6,.nm 6),(7,.nm 7),(36,.nil)] rfl rfl ?_ ?_) (fun k=>?_)
  ·first|exact eN|refine eM ?_
   exact⟨rfl,rfl⟩
  ·first|exact eN|refine eM ?_
  ·obtain⟨k,hk⟩:=k;have g:=Xb l k;have d:=Uj l k;simp only;repeat'(first|exact trivial|refine eS rfl ?_|refine AB ?_|refine rX b ?_ ?_|refine rC ?_ ?_<;>intro a<;>try(cases a;done))
   ·exact eV
   ·refine⟨by exact eV,⟨by exact eV,by exact eV⟩,⟨by exact eV,by exact eV⟩,?_⟩;rw[g];simp only[AO];exact eV
   ·exact eV
   ·have c:2*k+1<l.length:=by exact eV
    have e:((2*k:Nat):Int)+1=((2*k+1:Nat):Int):=by omega
    refine⟨⟨k+1,by omega⟩,by simp only;omega,AC [(6,.nm 6),(7,.nm 7),(36,.nm 36)] rfl rfl ?_ ?_⟩
    ·simp only[d];first|exact eN|refine eM ?_
     rw[e];rfl
    ·simp only[d];first|exact eN|refine eM ?_
     show ((2*k:Nat):Int)+2=((2*(k+1):Nat):Int);omega
   ·have c:k=l.length / 2:=by exact eV
    refine Gy [36] ?_;have h:GM n s l=(n,([]:List ByteArray),Lf l k):=by
     unfold GM Y9;rw[←c,At (show Aa s ByteArray.empty=true from f)]
    exact fI b [.cell 6 111] (by rw[h];exact eR)
end
section
attribute [local go_sem] A0O cs0 cs1 cs2 cs3 cs4 cs5 cs6 cs7 cs8
def Ik:List AH:=[
 GM { data:=#[116,111,112] } { data:=#[] } [],
 GM { data:=#[108,105,115,116] } { data:=#[116,111,112] } [],
 GM { data:=#[99,111,110,115] } { data:=#[108,105,115,116] } [{ data:=#[70,73,82,83,84] },{ data:=#[116,111,112] },{ data:=#[82,69,83,84] },{ data:=#[108,105,115,116] }],
 GM { data:=#[110,117,108,108] } { data:=#[108,105,115,116] } [],
 GM { data:=#[100,108,105,115,116] } { data:=#[116,111,112] } [{ data:=#[76,73,83,84] },{ data:=#[108,105,115,116] },{ data:=#[76,65,83,84] },{ data:=#[108,105,115,116] }],
 GM { data:=#[105,110,100,101,120] } { data:=#[116,111,112] } [],
 GM { data:=#[104,97,110,100,108,101] } { data:=#[105,110,100,101,120] } [],
 GM { data:=#[101,118,101,110,116] } { data:=#[105,110,100,101,120] } [],
 GM { data:=#[101,110,116,105,116,121] } { data:=#[105,110,100,101,120] } [],
 GM { data:=#[114,101,108] } { data:=#[116,111,112] } [{ data:=#[76,65,66,69,76] },{ data:=#[104,97,110,100,108,101] }],
 GM { data:=#[113,101,113] } { data:=#[116,111,112] } [{ data:=#[72,73,71,72] },{ data:=#[104,97,110,100,108,101] },{ data:=#[76,79,87] },{ data:=#[104,97,110,100,108,101] }],
 GM { data:=#[115,101,109] } { data:=#[116,111,112] } [{ data:=#[84,79,80] },{ data:=#[104,97,110,100,108,101] },{ data:=#[73,78,68,69,88] },{ data:=#[105,110,100,101,120] },{ data:=#[82,69,76,83] },{ data:=#[100,108,105,115,116] },{ data:=#[67,79,78,83] },{ data:=#[100,108,105,115,116] }],
 GM { data:=#[115,105,103,110] } { data:=#[116,111,112] } [{ data:=#[83,69,77] },{ data:=#[115,101,109] },{ data:=#[65,82,71,83] },{ data:=#[108,105,115,116] }]]
def QE:Ae:={ ins:=[],pre:=fun _=>True,out:=fun _=>[.p FC Ik] }
theorem l9:Ao Tryz.prog 37 QE:=by
 refine fKP [0] [3,6,12,14,16,18,20] [] Tryz.func37 Tryz.ntmps37 (AF A3h AG) ?_;rintro w0 O0 u a - -;simp only[QE,AM];repeat'(first|exact trivial|refine eS rfl ?_|refine AB ?_|refine rX a ?_ ?_|refine rC ?_ ?_<;>intro b<;>try(cases b;done))
 exact fI a [.tmp 0] (by unfold Ik;exact eR)
end
end Go.Proofs.YtdapahgnpbehbaaGreat.Fw
