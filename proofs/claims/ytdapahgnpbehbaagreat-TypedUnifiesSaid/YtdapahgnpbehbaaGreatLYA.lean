/- Contracts of the program's and the reference's functions, and the plain laws of what they compute: C1 C2 C9 C10 C11 C12 C13 C3 C4 C5 C6 C7 C8 C14 C15 C16 C17 C18 C19 C20 C21 C22 C23 N1 N2 C24 C25 N3 C26 C27 C28 C29 N4 C30 C31 C32 C33 C34 C35 R07a R07b. -/
import Derived.Test.YtdapahgnpbehbaaGreatLZJ
set_option linter.unusedVariables false
set_option linter.unusedSimpArgs false
namespace Go.Proofs.YtdapahgnpbehbaaGreat.Fw
open Go
attribute [local irreducible] Ev
attribute [local go_sem] XB AM List.toList_toArray Br evG evK Te Ef Ju Fm E6 F7 Nl KI CG Ct K2 B0 Ck frz aD GX DJ A7 FY BW AV.frz AV.frzs AV.drp AV.drps AV.names AV.namess aq GY KH Jl Qq ID BQ BX JJ Ea Hn Eb Hq Ho Hr Si Nf GZ JK Fa Dz Sj PJ xZ JL II Kw FE Dk IJ Jn EE Qr Ca EF Eq PK IK PM Lk IL Jo Cs Cj FK Dl HL DR Er DS EH FJ B0 Ci O6 O8 MB F5 IG IE Jm MC Ni Ll K0 Ky Jr PN Kz Js Wa Nk Nj AV.trn AV.trns Dy CZ Obj.trn JY Y8 DF DT DE EI CV Es Aj lk Gr GP HJ yC aC Tc aF PI pY pZ pfs AV.cells CE JG OB Jq Nh CU L9 Ty.cell1 Hm Ep Dj F4 Kv EZ KG Lj O7 Eo Gy L8 Qp Sg L5 KF WX Yj O9 MA Cr JH RV.flat Ty.flat Ty.size St.add upd del Bd Value.oneCell' Kt Ty.dflt Hl M7 G0 ND List.take_succ_cons List.take_zero List.length_cons XI XJ NC IV KS Ge H9 uE E7 LB LC LD LE OL OM JQ Hx Q1 Option.map_some Option.map_none Option.bind_some Option.getD_some Option.getD_none Option.isNone_none Option.isNone_some Bool.and_true Bool.true_and Bool.and_false Bool.false_and Bool.not_true Bool.not_false if_true if_false List.length_cons List.length_nil and_true true_and and_self List.all_cons List.all_nil List.append_nil List.nil_append List.cons_append List.getElem?_cons_zero List.getElem?_cons_succ List.getElem?_nil List.map_cons List.map_nil List.set_cons_zero List.set_cons_succ List.isEmpty_nil List.isEmpty_cons decide_true decide_false beq_self_eq_true bne_self_eq_false Nat.zero_add Nat.add_zero Nat.sub_zero Int.toNat_natCast Int.toNat_zero Int.toNat_one List.take_length List.length_append List.length_singleton true_or or_true or_self false_or or_false Ty.agg.injEq Ty.slice.injEq Ty.prod.injEq Ty.int.injEq Option.some.injEq beq_iff_eq Lr evMG evMQ x5 HQ Lq Bx JS GL MN JR HP Hy JT KR MO MQ MP Q2 KQ M9 NA H8 AY Al Op.operands Call.operands List.filterMap_cons List.filterMap_nil List.append_eq Bool.cond_false_right Bool.cond_true_left cond_true cond_false implies_true decide_eq_true_eq beq_true beq_false Bool.or_true Bool.or_false Bool.true_or Bool.false_or Option.isSome_some Array.empty_append List.append_toArray FZ K3 Et He WZ Ng FI Fg Ff IM HK Jp Kx Td aE Jk inB Jt FT F6 X1 Ah XK List.drop_zero De Hi We CK Jz BV AV.fgt AV.fgts Obj.fgt Af Ai AY Cu IW BH GB List.any_cons List.any_nil lD Y5 Wf Y6 L6 Pl qs List.flatMap_cons List.flatMap_nil List.cons_append tn Wg Hj List.take_succ_cons List.drop_succ_cons Wh HS Bl bT KU B2 CO Aa Ex Jy Bg Ew Dm HN Hw GA HO
attribute [local go_sem] J3 mO ty3 ty4 ty5 ty9 A02 A03 A04 A05 A06 A07 A08 A09 A0a A0b A0c A0d A0e A0f A0g A0h A0i A0j A0k A0l A0m A0n A0o A0p A0q A0r A0s A0t A0u A0v A0w A0x A0y A0z A0A A0B A0C A0D A0E A0F A0G A0H A0I A0J A0K A0L A0M A0N A0O A0P A0Q A0R A0S A0T A0U A0V A0W A0X A0Y A0Z A10 A11 A12 A13 A14 A15 A16 A17 A18 A19 A1a A1b A1c A1d b6 b7 b8 b9 cA cB cC cE cF cG cH cI cJ cK cL cM cN cO cQ cR cS cU cV cW cX cZ c5 c6 c7 c8 c9 dA dB dC dD dE dF dG dH dI dJ dK dL dM dN dP dQ dR dS dT dU dV dW dX dY dZ d3 d4 d5 d6 d7 d8 d9 eB eC eD eE eF eG eH eI eJ eK eL eO eQ eU eX eY eZ e5 e7 e9 fA fB fC fD fE fF fG fH fJ fL fN fO fP fQ fR fS fT fU fV fW fX fY fZ f3 f4 f5 f6 f7 f9 gB gC gD gE gF gG gH
set_option maxRecDepth 100000
set_option maxHeartbeats 4000000
section
def J4 (a b c:Int):Bool:=decide (a≤c)&&decide (c≤b)
def mP:Ad:={ ins:=[.int .u8],pre:=fun _=>True,out:=fun(c,_)=>[.p .bool (J4 48 57 c)] }
attribute [local go_sem] mP
def mQ:Ad:={ ins:=[.int .u8],pre:=fun _=>True,out:=fun(c,_)=>[.p .bool (J4 65 90 c)] }
attribute [local go_sem] mQ
def mR:Ad:={ ins:=[.int .u8],pre:=fun _=>True,out:=fun(c,_)=>[.p .bool (J4 97 122 c)] }
attribute [local go_sem] mR
theorem gM:Ag Tryz.prog 176 mP:=by
 refine fK [0,2] Tryz.func176 Tryz.ntmps176 AG ?_;rintro w0 O0 ⟨c,u⟩ a - -;simp only[mP,AM];repeat'(first|exact trivial|refine eS rfl ?_|refine AB ?_|refine rX a ?_ ?_|refine rC ?_ ?_<;>intro b<;>try(cases b;done))
 exact fI a [.tmp 2] (by unfold J4;exact eR)
theorem A1j:Ag Tryz.prog 183 mQ:=by
 refine fK [0,2] Tryz.func183 Tryz.ntmps183 AG ?_;rintro w0 O0 ⟨c,u⟩ a - -;simp only[mQ,AM];repeat'(first|exact trivial|refine eS rfl ?_|refine AB ?_|refine rX a ?_ ?_|refine rC ?_ ?_<;>intro b<;>try(cases b;done))
 exact fI a [.tmp 2] (by unfold J4;exact eR)
theorem A1k:Ag Tryz.prog 184 mR:=by
 refine fK [0,2] Tryz.func184 Tryz.ntmps184 AG ?_;rintro w0 O0 ⟨c,u⟩ a - -;simp only[mR,AM];repeat'(first|exact trivial|refine eS rfl ?_|refine AB ?_|refine rX a ?_ ?_|refine rC ?_ ?_<;>intro b<;>try(cases b;done))
 exact fI a [.tmp 2] (by unfold J4;exact eR)
def Ua (c:Int) (big:Bool):Bool:=J4 48 57 c||c==45||big&&J4 65 90 c||!big&&J4 97 122 c
def A1l:Ad:={ ins:=[.int .u8,.bool],pre:=fun _=>True,out:=fun(c,b,_)=>[.p .bool (Ua c b)] }
attribute [local go_sem] A1l
theorem A4t:Ag Tryz.prog 177 A1l:=by
 refine fK [0,1,4] Tryz.func177 Tryz.ntmps177 (AF gM (AF A1j (AF A1k AG))) ?_;rintro w0 O0 ⟨c,b,u⟩ a - -;simp only[A1l,AM];repeat'(first|exact trivial|refine eS rfl ?_|refine AB ?_|refine rX a ?_ ?_|refine rC ?_ ?_<;>intro d<;>try(cases d;done))
 exact fI a [.tmp 4] (by unfold Ua;exact eR)
abbrev chr (s:ByteArray) (i:Nat):Int:=((s.data.getD i 0).toNat:Int)
def RB (s:ByteArray):Bool:=decide ((s.size:Int)<1)||decide (32<(s.size:Int))||J4 48 57 (chr s 0)||chr s 0==45
def Ey (s:ByteArray) (big:Bool):Bool:=!RB s&&(List.range s.size).all fun i=>Ua (chr s i) big
def mS:Ad:={ ins:=[T9,.bool],pre:=fun _=>True,out:=fun(s,b,_)=>[.p .bool (Ey s b)] }
attribute [local go_sem] mS
theorem gN:Ag Tryz.prog 165 mS:=by
 refine fK [0,1,4,5,23,27,35] Tryz.func165 Tryz.ntmps165 (AF gM (AF A4t AG)) ?_;rintro w0 O0 ⟨s,b,u⟩ d - -;simp only[mS,AM];repeat'(first|exact trivial|refine eS rfl ?_|refine AB ?_|refine rX d ?_ ?_|refine rC ?_ ?_<;>intro a<;>try(cases a;done))
 ·constructor
  ·intro h;simp only[bY,AAC,On]at h;have:1≤(s.size:Int):=by omega
   exact this
  ·intro h;simp only[bY,AAC,On]at h;have:1≤(s.size:Int):=by omega
   exact this
 ·have h1:RB s=true:=by
   unfold RB chr;simp only[AAi,IS,AAq];exact a
  have c:Ey s b=false:=by unfold Ey;rw[h1];rfl
  exact fI d [.tmp 4] (by rw[c];exact eR)
 ·have h1:RB s=false:=by
   unfold RB chr;simp only[AAC,On,AB8];exact⟨⟨⟨by omega,by omega⟩,a.1.2⟩,a.2⟩
  have g:s.size≤32:=by omega
  refine AH (ι:={k:Nat//k≤s.size∧((List.range k).all fun i=>Ua (chr s i) b)=true}) (fun k=>⟨[(0,.p T9 s),(1,.p .bool b),(5,.p (.int .i64) (k.1:Int))],[]⟩) (fun k=>s.size-k.1) ⟨0,by simp⟩ (eW []) (fun k=>?_)
  ·obtain⟨k,hk,f⟩:=k;repeat'(first|exact trivial|refine eS rfl ?_|refine AB ?_|refine rX d ?_ ?_|refine rC ?_ ?_<;>intro a<;>try(cases a;done))
   ·exact a
   ·have e:k<s.size:=by omega
    have c:Ey s b=false:=by
     unfold Ey;rw[AAP];refine .inr (ACe.2 fun h=>?_);have:=IN.1 h k (oN.2 e);rw[show Ua (chr s k) b=false from a]at this;cases this
    exact fI d [.tmp 4] (by rw[c];exact eR)
   ·omega
   ·have e:k<s.size:=by omega
    refine⟨⟨k+1,by omega,?_⟩,by simp only;omega,AC [] rfl rfl ?_ ?_⟩
    ·rw[AAd,ABK,f];rw[AC6,ABh,List.all_nil,Bool.and_true];exact a
    ·exact eN
    ·exact eN
   ·have e:k=s.size:=by omega
    subst e;have c:Ey s b=true:=by unfold Ey;rw[h1,f];rfl
    exact fI d [.tmp 4] (by rw[c];exact eR)
def A1m:Ad:={ ins:=[T9],pre:=fun _=>True,out:=fun(s,_)=>[.p .bool (Ey s false)] }
def Ub:Ad:={ ins:=[T9],pre:=fun _=>True,out:=fun(s,_)=>[.p .bool (Ey s true)] }
theorem A4u:Ag Tryz.prog 151 A1m:=by
 refine fK [0,2] Tryz.func151 Tryz.ntmps151 (AF gN AG) ?_;rintro w0 O0 ⟨s,u⟩ a - -;simp only[A1m,AM];repeat'(first|exact trivial|refine eS rfl ?_|refine AB ?_|refine rX a ?_ ?_|refine rC ?_ ?_<;>intro b<;>try(cases b;done))
 exact fI a [.tmp 2]
theorem mT:Ag Tryz.prog 150 Ub:=by
 refine fK [0,2] Tryz.func150 Tryz.ntmps150 (AF gN AG) ?_;rintro w0 O0 ⟨s,u⟩ a - -;simp only[Ub,AM];repeat'(first|exact trivial|refine eS rfl ?_|refine AB ?_|refine rX a ?_ ?_|refine rC ?_ ?_<;>intro b<;>try(cases b;done))
 exact fI a [.tmp 2]
end
section
theorem NF {α:Type} (l:List α) (d:α) (p:α→Bool) {k:Nat} (h:k<l.length):(l.take (k+1)).any p=((l.take k).any p||p (l.getD k d)):=by
 rw[AX l d h,AC4];simp
theorem JZ {α:Type} (l:List α) (d:α) (p:α→Bool) {k:Nat} (h:k<l.length) (hp:p (l.getD k d)=true):l.any p=true :=
 gO.2 ⟨_,AD l d h,hp⟩
def AW (l:List ByteArray) (s:ByteArray):Bool:=l.any fun x=>Ab x s
def J5:Ad:={ ins:=[CA,T9],pre:=fun _=>True,out:=fun(l,n,_)=>[.p .bool (AW l n)],lend:=true }
attribute [local go_sem] J5
theorem G2:Ag Tryz.prog 131 J5:=by
 refine fK [0,1,4,5,9,17] Tryz.func131 Tryz.ntmps131 AG ?_;rintro w0 O0 ⟨l,n,u⟩ b ⟨⟨e,-⟩,-⟩ -;simp only[AO]at e;simp only[J5,AM];repeat'(first|exact trivial|refine eS rfl ?_|refine AB ?_|refine rX b ?_ ?_|refine rC ?_ ?_<;>intro a<;>try(cases a;done))
 refine AH (ι:={k:Nat//k≤l.length∧(l.take k).any (fun x=>Ab x n)=false}) (fun k=>⟨[(0,.p CA l),(1,.p T9 n),(5,.p (.int .i64) (k.1:Int))],[]⟩) (fun k=>l.length-k.1) ⟨0,by simp⟩ (eW []) (fun k=>?_)
 ·obtain⟨k,hk,c⟩:=k;repeat'(first|exact trivial|refine eS rfl ?_|refine AB ?_|refine rX b ?_ ?_|refine rC ?_ ?_<;>intro a<;>try(cases a;done))
  ·exact eV
  ·have d:k<l.length:=by exact eV
   have h1:AW l n=true:=JZ l ByteArray.empty _ d a;exact fI b [.tmp 4] (by rw[h1];exact eR)
  ·exact eV
  ·have d:k<l.length:=by exact eV
   refine⟨⟨k+1,by exact eV,?_⟩,by simp only;exact eV,AC [] rfl rfl ?_ ?_⟩
   ·rw[NF l ByteArray.empty _ d,c];exact a
   ·exact eN
   ·exact eN
  ·have hk:l.take k=l:=An (by exact eV);rw[hk]at c;have h1:AW l n=false:=c;exact fI b [.tmp 4] (by rw[h1];exact eR)
def atF (l:List ByteArray) (s:ByteArray):Nat:=(l.takeWhile fun x=>Hd x s).length
theorem A1o {α:Type} (p:α→Bool) (d:α):∀(l:List α) (k:Nat),k≤(l.takeWhile p).length→((k<l.length∧p (l.getD k d)=true)↔k+1≤(l.takeWhile p).length)
 | [],k,h=>by simp
 | x :: l,k,h=>by
  by_cases a:p x=true
  ·rw[List.takeWhile_cons,BY a]at h ⊢;cases k with
   | zero=>simp[a]
   | succ k =>
    have:=A1o p d l k (by simpa using h);simpa using this
  ·rw[List.takeWhile_cons,At a]at h ⊢;have hk:k=0:=by simpa using h
   subst hk;simp[a]
theorem A5S {α:Type} (p:α→Bool) (l:List α):(l.takeWhile p).length≤l.length:=(List.takeWhile_sublist p).length_le
def Ed (l:List ByteArray) (s:ByteArray):List ByteArray :=
 if (decide (atF l s<l.length)&&Ab (l.getD (atF l s) ByteArray.empty) s)=true then l else l.take (atF l s)++[s]++l.drop (atF l s)
def ZD:Ad:={ ins:=[CA,T9],pre:=fun(l,_,_)=>List.length l≤100000,out:=fun(l,n,_)=>[.p CA (Ed l n)] }
attribute [local go_sem] ZD
theorem RD:Ag Tryz.prog 122 ZD:=by
 refine fK [0,1,4,5,6,18,32] Tryz.func122 Tryz.ntmps122 AG ?_;rintro w0 O0 ⟨l,n,u⟩ c-m;have m:l.length≤100000:=m;simp only[ZD,AM];repeat'(first|exact trivial|refine eS rfl ?_|refine AB ?_|refine rX c ?_ ?_|refine rC ?_ ?_<;>intro a<;>try(cases a;done))
 refine AH (ι:={k:Nat//k≤atF l n}) (fun k=>⟨[(0,.p CA l),(1,.p T9 n),(5,.raw (.slice none 0 0)),(6,.p (.int .i64) (k.1:Int))],[]⟩) (fun k=>l.length-k.1) ⟨0,by simp⟩ (eW []) (fun k=>?_)
 ·obtain⟨k,hk⟩:=k;have d:=A5S (fun x=>Hd x n) l;have i:=A1o (fun x=>Hd x n) ByteArray.empty l k hk;simp only;repeat'(first|exact trivial|refine eS rfl ?_|refine AB ?_|refine rX c ?_ ?_|refine rC ?_ ?_<;>intro a<;>try(cases a;done))
  ·exact fun h=>h
  ·have h1:k<l.length∧Hd (l.getD k ByteArray.empty) n=true:=⟨by exact eV,a.2⟩;exact eV
  ·have h1:k<l.length∧Hd (l.getD k ByteArray.empty) n=true:=⟨by exact eV,a.2⟩;exact⟨⟨k+1,i.1 h1⟩,by simp only;omega,eW []⟩
  ·exact fun h=>h
  ·rename_i f;have g:k=atF l n:=by
    refine AC1 hk (Nat.le_of_not_lt fun h=>?_);have:=i.2 h;rw[f (OR.2 this.1)]at this;cases this.2
   have e:Ed l n=l:=by
    unfold Ed;rw[←g,BY];rw[As,IS];exact⟨OR.1 a.1,a.2⟩
   exact fI c [.tmp 4] (by rw[e];exact eR)
  ·have j:=AAo k l;have b:k≤l.length:=TO hk d;simp only[AO];exact⟨f8.2 b,by dsimp only[Ty.den]at *;omega⟩
  ·have j:=AAo k l;have b:k≤l.length:=TO hk d;simp only[AO];dsimp only[Ty.den]at *;omega
  ·have j:=AAo k l;have b:k≤l.length:=TO hk d;have q:(l.drop k).length≤l.length:=by rw[AAr];omega
   simp only[AO];exact⟨f8.2 b,by dsimp only[Ty.den]at *;omega⟩
  ·rename_i f;have g:k=atF l n:=by
    refine AC1 hk (Nat.le_of_not_lt fun h=>?_);have:=i.2 h;rw[f (OR.2 this.1)]at this;cases this.2
   have e:Ed l n=l.take k++[n]++l.drop k:=by
    unfold Ed;rw[←g,At];rw[As,IS];intro h;rw[a (OR.2 h.1)]at h;cases h.2
   have b:k≤l.length:=TO hk d;have o:(l.take k).length+1+(l.drop k).length=(l.take k++[n]++l.drop k).length:=by simp only[Do,aS]
   rw[o,←e];refine Gg [38] ?_;exact fI c [.tmp 4]
end
section
def GR (b:List Int) (i:Int):Int:=if i<b.length then b.getD i.toNat 0 else 0
def gP:Ad:={ ins:=[EM,T3],pre:=fun(_,i,_)=>(0:Int)≤i,out:=fun(b,i,_)=>[.p Pq (GR b i)],lend:=true }
attribute [local go_sem] gP
theorem qZ:Ag Tryz.prog 142 gP:=by
 refine fK [0,1,4,8] Tryz.func142 Tryz.ntmps142 AG ?_;rintro w0 O0 ⟨b,i,u⟩ c-hi;simp only[gP,AM];repeat'(first|exact trivial|refine eS rfl ?_|refine AB ?_|refine rX c ?_ ?_|refine rC ?_ ?_<;>intro a<;>try(cases a;done))
 ·exact⟨hi,a⟩
 ·have h1:GR b i=b.getD i.toNat 0:=by unfold GR;rw[BY a]
  exact fI c [.tmp 4] (by rw[h1];exact eR)
 ·have h1:GR b i=0:=by unfold GR;rw[At (ABc.2 a)]
  exact fI c [.tmp 4] (by rw[h1];exact eR)
def Ce (b:List Int):Nat→Nat
 | 0=>0
 | n+1=>if b.getD n 0=0 then Ce b n else n+1
def BJ (b:List Int):List Int:=b.take (Ce b b.length)
theorem Uc (b:List Int):∀n,Ce b n≤n
 | 0=>Is _
 | n+1=>by
  unfold Ce;split
  ·exact Nat.le_succ_of_le (Uc b n)
  ·exact Is _
def LM:Ad:={ ins:=[EM],pre:=fun(b,_)=>List.length b≤100000,out:=fun(b,_)=>[.p EM (BJ b)] }
attribute [local go_sem] LM
theorem NG:Ag Tryz.prog 124 LM:=by
 refine fK [0,2,3,15] Tryz.func124 Tryz.ntmps124 AG ?_;rintro w0 O0 ⟨b,u⟩ d-f;have f:b.length≤100000:=f;simp only[LM,AM];repeat'(first|exact trivial|refine eS rfl ?_|refine AB ?_|refine rX d ?_ ?_|refine rC ?_ ?_<;>intro c<;>try(cases c;done))
 refine AH (ι:={n:Nat//n≤b.length∧Ce b n=Ce b b.length}) (fun n=>⟨[(0,.p EM b),(3,.p (.int .i64) (n.1:Int))],[]⟩) (fun n=>n.1) ⟨b.length,Is _,rfl⟩ (eW []) (fun n=>?_)
 ·obtain⟨n,hn,g⟩:=n;simp only;repeat'(first|exact trivial|refine eS rfl ?_|refine AB ?_|refine rX d ?_ ?_|refine rC ?_ ?_<;>intro c<;>try(cases c;done))
  ·constructor
   ·exact eV
   ·intro h;refine⟨?_,?_⟩<;>exact eV
  ·exact eV
  ·obtain⟨h1,a⟩:=c;obtain⟨m,rfl⟩:∃m,n=m+1:=⟨n-1,by omega⟩;have e:(((m+1:Nat):Int)-1)=(m:Int):=by omega
   rw[e]at a;have a:b.getD m 0=0:=a;have j:Ce b m=Ce b b.length:=by
    rw[←g];show _=if b.getD m 0=0 then Ce b m else m+1
    rw[BY a]
   refine⟨⟨m,by omega,j⟩,by simp,AC [] rfl rfl ?_ ?_⟩
   ·exact eN
   ·simp only[e];exact eN
  ·have k:=AAo n b;simp only[AO];exact⟨f8.2 hn,by dsimp only[Ty.den]at *;omega⟩
  ·have i:Ce b n=n:=by
    cases n with
    | zero=>rfl
    | succ m =>
     have e:(((m+1:Nat):Int)-1)=(m:Int):=by omega
     rw[e]at c;have a:=c (by omega);have a:¬b.getD m 0=0:=a;show (if b.getD m 0=0 then Ce b m else m+1)=m+1;rw[At a]
   have h1:BJ b=b.take n:=by unfold BJ;rw[←g,i]
   rw[←h1];refine Gg [18] ?_;exact fI d [.tmp 2]
end
section
attribute [local go_sem] gP LM
def A1p (w:Int) (r:Int):Bool:=CB .and .u64 (WY .u64 w r) 1==1
def RE (b:List Int) (i:Int):Bool:=if (decide (i<0)||decide ((b.length:Int)≤i.tdiv 64))=true then false else A1p (b.getD (i.tdiv 64).toNat 0) (i.tmod 64)
def A1q:Ad:={ ins:=[EM,T3],pre:=fun _=>True,out:=fun(b,i,_)=>[.p .bool (RE b i)],lend:=true }
theorem A6C {w:Int} (h0:0≤w) (r:Int):0≤WY .u64 w r∧WY .u64 w r≤w:=by
 unfold WY;have hp:(0:Int)<2 ^ (min r.toNat IntKind.u64.bits):=Int.pow_pos (by decide);rw[ABW _ (ACU hp)];exact⟨Int.ediv_nonneg h0 (ACU hp),Int.ediv_le_self _ h0⟩
theorem A1r:Ag Tryz.prog 135 A1q:=by
 refine fK [0,1,4,13] Tryz.func135 Tryz.ntmps135 AG ?_;rintro w0 O0 ⟨b,i,u⟩ d ⟨⟨m,k⟩,e,-⟩ -;have e:Li .i64 i:=e;rw[JQ]at e;have j:0≤i→Int.tdiv i 64=i / 64∧Int.tmod i 64=i % 64:=fun h=>⟨AAG h,ABy h⟩;simp only[A1q,AM];repeat'(first|exact trivial|refine eS rfl ?_|refine AB ?_|refine rX d ?_ ?_|refine rC ?_ ?_<;>intro c<;>try(cases c;done))
 ·intro h;have h0:0≤i:=by simpa using h
  obtain⟨a,g⟩:=j h0;rw[a];refine⟨by decide,?_,?_⟩<;>exact eV
 ·have h1:RE b i=false:=by
   unfold RE;rw[BY];rw[AAi,IS,IS];exact c
  exact fI d [.tmp 4] (by rw[h1];exact eR)
 ·obtain⟨h0,l⟩:=c;obtain⟨a,g⟩:=j h0;rw[a]at l;have f:Li .u64 (b.getD (i / 64).toNat 0):=k _ (AD b 0 (by exact eV));rw[Hx]at f;have hs:=A6C f.1 (i % 64);rw[a,g];refine⟨⟨by decide,by exact eV,by exact eV⟩,⟨by exact eV,by exact eV⟩,⟨by decide,by exact eV,by exact eV⟩,⟨by exact eV,by exact eV⟩,by exact eV,hs.1,ABj hs.2 f.2⟩
 ·have h1:RE b i=A1p (b.getD (i.tdiv 64).toNat 0) (i.tmod 64):=by
   unfold RE;rw[At];rw[AAi,IS,IS];rintro (h|h)<;>omega
  exact fI d [.tmp 4] (by rw[h1];unfold A1p;exact eR)
end
section
attribute [local go_sem] gP LM
def Gh (op:BinOp) (a b:List Int) (n:Nat):List Int:=(List.range n).map fun i=>CB op .u64 (a.getD i 0) (GR b (i:Int))
theorem Ez (op:BinOp) (a b:List Int) (n:Nat):(Gh op a b n).length=n:=by simp[Gh]
theorem Xa (op:BinOp) (a b:List Int) (n:Nat):Gh op a b (n+1)=Gh op a b n++[CB op .u64 (a.getD n 0) (GR b (n:Int))]:=by simp[Gh,AAd]
def EO (a b:List Int):List Int:=BJ (Gh .and a b a.length)
def A1s:Ad:={ ins:=[EM,EM],pre:=fun(a,_,_)=>List.length a≤100000,out:=fun(a,b,_)=>[.p EM (EO a b)] }
theorem mU:Ag Tryz.prog 112 A1s:=by
 refine fK [0,1,4,5,6,10] Tryz.func112 Tryz.ntmps112 (AF qZ (AF NG AG)) ?_;rintro w0 O0 ⟨a,b,u⟩ d-ha;have ha:a.length≤100000:=ha;simp only[A1s,AM];repeat'(first|exact trivial|refine eS rfl ?_|refine AB ?_|refine rX d ?_ ?_|refine rC ?_ ?_<;>intro c<;>try(cases c;done))
 refine AH (ι:={n:Nat//n≤a.length}) (fun n=>⟨[(0,.p EM a),(1,.p EM b),(5,.sr 23 Pq 0 n.1),(6,.p (.int .i64) (n.1:Int))],[(23,.arr 155 Pq (Gh .and a b n.1))]⟩) (fun n=>a.length-n.1) ⟨0,NO _⟩ (AC [(23,.nil)] rfl rfl ?_ ?_) (fun n=>?_)
 ·refine eM ?_;rfl
 ·exact eN
 ·obtain⟨n,hn⟩:=n;have g:=Ez .and a b n;have hs:=Xa .and a b n;simp only;repeat'(first|exact trivial|refine eS rfl ?_|refine AB ?_|refine rX d ?_ ?_|refine rC ?_ ?_<;>intro c<;>try(cases c;done))
  ·refine⟨c,?_⟩;simp only[AO];dsimp only[Ty.den]at *;omega
  ·exact eV
  ·have e:n<a.length:=by exact eV
   refine⟨⟨n+1,by omega⟩,by simp only;omega,AC [(23,.nm 23)] rfl rfl ?_ ?_⟩
   ·simp only[hs];refine eM ?_;rw[An (by rw[g];exact Is _)]
   ·exact eN
  ·have e:n=a.length:=by exact eV
   subst e;refine Gg [23] ?_;have f:(Gh .and a b a.length).take a.length=Gh .and a b a.length:=An (by rw[Ez];exact Is _);repeat'(first|exact trivial|refine eS rfl ?_|refine AB ?_|refine rX d ?_ ?_|refine rC ?_ ?_<;>intro c<;>try(cases c;done))
   ·rw[f,Ez];exact ha
   ·rw[f];exact fI d [.tmp 4] (by unfold EO;exact eR)
def RF (a b:List Int):List Int:=BJ (Gh .andNot a b a.length)
def mV:Ad:={ ins:=[EM,EM],pre:=fun(a,_,_)=>List.length a≤100000,out:=fun(a,b,_)=>[.p EM (RF a b)] }
attribute [local go_sem] mV
theorem A1t:Ag Tryz.prog 109 mV:=by
 refine fK [0,1,4,5,6,10] Tryz.func109 Tryz.ntmps109 (AF qZ (AF NG AG)) ?_;rintro w0 O0 ⟨a,b,u⟩ d-ha;have ha:a.length≤100000:=ha;simp only[mV,AM];repeat'(first|exact trivial|refine eS rfl ?_|refine AB ?_|refine rX d ?_ ?_|refine rC ?_ ?_<;>intro c<;>try(cases c;done))
 refine AH (ι:={n:Nat//n≤a.length}) (fun n=>⟨[(0,.p EM a),(1,.p EM b),(5,.sr 23 Pq 0 n.1),(6,.p (.int .i64) (n.1:Int))],[(23,.arr 155 Pq (Gh .andNot a b n.1))]⟩) (fun n=>a.length-n.1) ⟨0,NO _⟩ (AC [(23,.nil)] rfl rfl ?_ ?_) (fun n=>?_)
 ·refine eM ?_;rfl
 ·exact eN
 ·obtain⟨n,hn⟩:=n;have g:=Ez .andNot a b n;have hs:=Xa .andNot a b n;simp only;repeat'(first|exact trivial|refine eS rfl ?_|refine AB ?_|refine rX d ?_ ?_|refine rC ?_ ?_<;>intro c<;>try(cases c;done))
  ·refine⟨c,?_⟩;simp only[AO];dsimp only[Ty.den]at *;omega
  ·exact eV
  ·have e:n<a.length:=by exact eV
   refine⟨⟨n+1,by omega⟩,by simp only;omega,AC [(23,.nm 23)] rfl rfl ?_ ?_⟩
   ·simp only[hs];refine eM ?_;rw[An (by rw[g];exact Is _)]
   ·exact eN
  ·have e:n=a.length:=by exact eV
   subst e;refine Gg [23] ?_;have f:(Gh .andNot a b a.length).take a.length=Gh .andNot a b a.length:=An (by rw[Ez];exact Is _);repeat'(first|exact trivial|refine eS rfl ?_|refine AB ?_|refine rX d ?_ ?_|refine rC ?_ ?_<;>intro c<;>try(cases c;done))
   ·rw[f,Ez];exact ha
   ·rw[f];exact fI d [.tmp 4] (by unfold RF;exact eR)
def FX (a b:List Int):Bool:=((RF a b).length:Int)==0
def Pr:Ad:={ ins:=[EM,EM],pre:=fun(a,_,_)=>List.length a≤100000,out:=fun(a,b,_)=>[.p .bool (FX a b)],lend:=true }
attribute [local go_sem] Pr
theorem Xb:Ag Tryz.prog 71 Pr:=by
 refine fK [0,1,4] Tryz.func71 Tryz.ntmps71 (AF A1t AG) ?_;rintro w0 O0 ⟨a,b,u⟩ c-ha;have ha:a.length≤100000:=ha;simp only[Pr,AM];repeat'(first|exact trivial|refine eS rfl ?_|refine AB ?_|refine rX c ?_ ?_|refine rC ?_ ?_<;>intro d<;>try(cases d;done))
 ·exact ha
 ·exact fI c [.tmp 4] (by unfold FX;exact eR)
def DX (a b:List Int):Bool:=FX a b&&FX b a
def ZE:Ad:={ ins:=[EM,EM],pre:=fun(a,b,_)=>List.length a≤100000∧List.length b≤100000,out:=fun(a,b,_)=>[.p .bool (DX a b)],lend:=true }
theorem u7:Ag Tryz.prog 134 ZE:=by
 refine fK [0,1,4] Tryz.func134 Tryz.ntmps134 (AF Xb AG) ?_;rintro w0 O0 ⟨a,b,u⟩ c-⟨ha,e⟩;simp only[ZE,AM];repeat'(first|exact trivial|refine eS rfl ?_|refine AB ?_|refine rX c ?_ ?_|refine rC ?_ ?_<;>intro d<;>try(cases d;done))
 ·exact⟨ha,fun _=>e⟩
 ·exact fI c [.tmp 4] (by unfold DX;exact eR)
end
section
attribute [local go_sem] A1q
def GS (a b:List Int):Bool:=decide (a=b)
def Ud:Ad:={ ins:=[EM,EM],pre:=fun _=>True,out:=fun(a,b,_)=>[.p .bool (GS a b)],lend:=true }
theorem ZF:Ag Tryz.prog 125 Ud:=by
 refine fK [0,1,4,5,10,14,25] Tryz.func125 Tryz.ntmps125 AG ?_;rintro w0 O0 ⟨a,b,u⟩ d ⟨⟨ha,-⟩,-⟩ -;simp only[AO]at ha;simp only[Ud,AM];repeat'(first|exact trivial|refine eS rfl ?_|refine AB ?_|refine rX d ?_ ?_|refine rC ?_ ?_<;>intro c<;>try(cases c;done))
 ·have h1:GS a b=false:=by
   unfold GS;rw[On];rintro rfl;exact c rfl
  exact fI d [.tmp 4] (by rw[h1];exact eR)
 ·have f:a.length=b.length:=by
   have:(a.length:Int)=(b.length:Int):=by simpa using c
   exact Int.ofNat_inj.1 this
  refine AH (ι:={k:Nat//k≤a.length∧a.take k=b.take k}) (fun k=>⟨[(0,.p EM a),(1,.p EM b),(5,.p (.int .i64) (k.1:Int))],[]⟩) (fun k=>a.length-k.1) ⟨0,NO _,rfl⟩ (eW []) (fun k=>?_)
  ·obtain⟨k,hk,hf⟩:=k;simp only;repeat'(first|exact trivial|refine eS rfl ?_|refine AB ?_|refine rX d ?_ ?_|refine rC ?_ ?_<;>intro c<;>try(cases c;done))
   ·exact⟨c,by rw[←f];exact c⟩
   ·have e:k<a.length:=by exact eV
    have h1:GS a b=false:=by
     unfold GS;rw[On];rintro rfl;exact c rfl
    exact fI d [.tmp 4] (by rw[h1];exact eR)
   ·exact eV
   ·have e:k<a.length:=by exact eV
    have g:a.getD k 0=b.getD k 0:=by simpa using c
    refine⟨⟨k+1,by omega,?_⟩,by simp only;omega,AC [] rfl rfl ?_ ?_⟩
    ·rw[AX a 0 e,AX b 0 (by omega),hf];rw[show a.getD k 0=b.getD k 0 from g]
    ·exact eN
    ·exact eN
   ·have e:k=a.length:=by exact eV
    subst e;rw[iS,f,iS]at hf;have h1:GS a b=true:=by unfold GS;rw[hf];simp
    exact fI d [.tmp 4] (by rw[h1];exact eR)
end
section
attribute [local go_sem] A1q
def Nu (b:List Int) (n:Nat):List Int:=((List.range n).filter fun(i:Nat)=>RE b (i:Int)).map fun(i:Nat)=>(i:Int)
def Ic (b:List Int):List Int:=Nu b (64*b.length)
theorem mW (b:List Int) (n:Nat):Nu b (n+1)=Nu b n++if RE b (n:Int)=true then [(n:Int)] else []:=by
 unfold Nu;rw[AAd,ABr,AAl]
 congr 1
 rw[AAn,AC3];split<;>rfl
theorem u9 (b:List Int) (n:Nat):(Nu b n).length≤n:=by
 unfold Nu;rw[To];exact TO (AAK _ _) (by simp)
def A1u:Ad:={ ins:=[EM],pre:=fun(b,_)=>List.length b≤100000,out:=fun(b,_)=>[.p GM (Ic b)] }
attribute [local go_sem] A1u
theorem A4v:Ag Tryz.prog 156 A1u:=by
 refine fK [0,2,3,4,9,14] Tryz.func156 Tryz.ntmps156 (AF A1r AG) ?_;rintro w0 O0 ⟨b,u⟩ c-e;have e:b.length≤100000:=e;simp only[A1u,AM];repeat'(first|exact trivial|refine eS rfl ?_|refine AB ?_|refine rX c ?_ ?_|refine rC ?_ ?_<;>intro a<;>try(cases a;done))
 refine AH (ι:={n:Nat//n≤64*b.length}) (fun n=>⟨[(0,.p EM b),(3,.sr 18 T3 0 (Nu b n.1).length),(4,.p (.int .i64) (n.1:Int))],[(18,.arr 3 T3 (Nu b n.1))]⟩) (fun n=>64*b.length-n.1) ⟨0,NO _⟩ (AC [(18,.nil)] rfl rfl ?_ ?_) (fun n=>?_)
 ·refine eM ?_;rfl
 ·refine eM ?_;rfl
 ·obtain⟨n,hn⟩:=n;have f:=u9 b n;have hs:=mW b n;simp only;repeat'(first|exact trivial|refine eS rfl ?_|refine AB ?_|refine rX c ?_ ?_|refine rC ?_ ?_<;>intro a<;>try(cases a;done))
  ·exact eV
  ·rw[a,BY rfl]at hs;simp only[AO];dsimp only[Ty.den]at *;omega
  ·exact eV
  ·have d:n<64*b.length:=by exact eV
   rw[a,BY rfl]at hs;refine⟨⟨n+1,by omega⟩,by simp only;omega,AC [(18,.nm 18)] rfl rfl ?_ ?_⟩
   ·simp only[hs];exact eN
   ·simp only[hs];exact eN
  ·exact eV
  ·have d:n<64*b.length:=by exact eV
   rw[a,At (by simp),AAh]at hs;refine⟨⟨n+1,by omega⟩,by simp only;omega,AC [(18,.nm 18)] rfl rfl ?_ ?_⟩
   ·simp only[hs];exact eN
   ·simp only[hs];exact eN
  ·have d:n=64*b.length:=by exact eV
   subst d;refine Gg [18] ?_;exact fI c [.tmp 2] (by unfold Ic;exact eR)
def mX:Ad:={ ins:=[EM],pre:=fun(b,_)=>List.length b≤100000,out:=fun(b,_)=>[.p T3 ((Ic b).length:Int)],lend:=true }
theorem A1v:Ag Tryz.prog 137 mX:=by
 refine fK [0,2] Tryz.func137 Tryz.ntmps137 (AF A4v AG) ?_;rintro w0 O0 ⟨b,u⟩ a-d;simp only[mX,AM];repeat'(first|exact trivial|refine eS rfl ?_|refine AB ?_|refine rX a ?_ ?_|refine rC ?_ ?_<;>intro c<;>try(cases c;done))
 ·exact d
 ·exact fI a [.tmp 2]
end
section
attribute [local go_sem] J5 A1m
abbrev AI:=ByteArray×List ByteArray×List (ByteArray×ByteArray)
abbrev d0:AI:=(ByteArray.empty,[],[])
def Cv (s:ByteArray):Nat→List AI→Int
 | _,[]=>-1
 | k,x :: l=>if Ab x.1 s=true then (k:Int) else Cv s (k+1) l
def Am (l:List AI) (s:ByteArray):Int:=Cv s 0 l
theorem SI (s:ByteArray) (l:List AI) {k:Nat} (h:k<l.length):Cv s k (l.drop k)=if Ab (l.getD k d0).1 s=true then (k:Int) else Cv s (k+1) (l.drop (k+1)):=by
 rw[ON h];have e:l.getD k d0=l[k]:=by simp[AS,h]
 rw[e];rfl
def OV:Ad:={ ins:=[FW,T9],pre:=fun _=>True,out:=fun(l,s,_)=>[.p T3 (Am l s)] }
attribute [local go_sem] OV
theorem MW:Ag Tryz.prog 152 OV:=by
 refine fK [0,1,4,5,9,18] Tryz.func152 Tryz.ntmps152 AG ?_;rintro w0 O0 ⟨l,s,u⟩ c ⟨⟨d,-⟩,-⟩ -;simp only[AO]at d;simp only[OV,AM];repeat'(first|exact trivial|refine eS rfl ?_|refine AB ?_|refine rX c ?_ ?_|refine rC ?_ ?_<;>intro a<;>try(cases a;done))
 refine AH (ι:={k:Nat//k≤l.length∧Cv s k (l.drop k)=Am l s}) (fun k=>⟨[(0,.p FW l),(1,.p T9 s),(5,.p (.int .i64) (k.1:Int))],[]⟩) (fun k=>l.length-k.1) ⟨0,NO _,rfl⟩ (eW []) (fun k=>?_)
 ·obtain⟨k,hk,hf⟩:=k;simp only;repeat'(first|exact trivial|refine eS rfl ?_|refine AB ?_|refine rX c ?_ ?_|refine rC ?_ ?_<;>intro a<;>try(cases a;done))
  ·exact a
  ·have b:k<l.length:=by exact eV
   rw[SI s l b,BY a]at hf;exact fI c [.tmp 4] (by rw[←hf];exact eR)
  ·exact eV
  ·have b:k<l.length:=by exact eV
   rw[SI s l b,At (by rw[a];simp)]at hf;exact⟨⟨k+1,by omega,hf⟩,by simp only;omega,eW []⟩
  ·have b:l.drop k=[]:=IF (by exact eV);rw[b]at hf;exact fI c [.tmp 4] (by rw[←hf];first|exact eR|refine bW ?_;rfl)
def MX:List AI→Int
 | []=>0
 | x :: l=>if 256<x.2.1.length∨256<x.2.2.length then 7 else MX l
def FF (l:List AI):Int:=if 256<l.length then 7 else MX l
theorem SJ (l:List AI) {k:Nat} (h:k<l.length):MX (l.drop k)=if 256<(l.getD k d0).2.1.length∨256<(l.getD k d0).2.2.length then 7 else MX (l.drop (k+1)):=by
 rw[ON h];have e:l.getD k d0=l[k]:=by simp[AS,h]
 rw[e];rfl
def ZG:Ad:={ ins:=[FW],pre:=fun _=>True,out:=fun(l,_)=>[.p WV (FF l)] }
attribute [local go_sem] ZG
theorem A1w:Ag Tryz.prog 126 ZG:=by
 refine fK [0,2,3,6,10,28] Tryz.func126 Tryz.ntmps126 AG ?_;rintro w0 O0 ⟨l,u⟩ b ⟨⟨d,-⟩,-⟩ -;simp only[AO]at d;simp only[ZG,AM];repeat'(first|exact trivial|refine eS rfl ?_|refine AB ?_|refine rX b ?_ ?_|refine rC ?_ ?_<;>intro a<;>try(cases a;done))
 ·have h1:FF l=7:=by unfold FF;rw[BY (by exact eV)]
  exact fI b [.tmp 2] (by rw[h1];exact eR)
 ·have h1:FF l=MX l:=by unfold FF;rw[At (by exact eV)]
  refine AH (ι:={k:Nat//k≤l.length∧MX (l.drop k)=FF l}) (fun k=>⟨[(0,.p FW l),(3,.p (.int .i64) (k.1:Int))],[]⟩) (fun k=>l.length-k.1) ⟨0,NO _,h1.symm⟩ (eW []) (fun k=>?_)
  ·obtain⟨k,hk,hf⟩:=k;simp only;repeat'(first|exact trivial|refine eS rfl ?_|refine AB ?_|refine rX b ?_ ?_|refine rC ?_ ?_<;>intro a<;>try(cases a;done))
   ·exact⟨a,fun _=>a⟩
   ·have c:k<l.length:=by exact eV
    rw[SJ l c,BY (by
     rcases a with h|h
     ·exact .inl (OR.1 h)
     ·exact .inr (OR.1 h))]at hf
    exact fI b [.tmp 2] (by rw[←hf];exact eR)
   ·exact eV
   ·have c:k<l.length:=by exact eV
    rw[SJ l c,At (by
     rintro (h|h)
     ·have:=f8.1 a.1;exact absurd h (Nat.not_lt.2 this)
     ·have:=f8.1 a.2;exact absurd h (Nat.not_lt.2 this))]at hf
    exact⟨⟨k+1,by omega,hf⟩,by simp only;omega,eW []⟩
   ·have c:l.drop k=[]:=IF (by exact eV);rw[c]at hf;exact fI b [.tmp 2] (by rw[←hf];first|exact eR|refine bW ?_;rfl)
theorem Gi {α:Type} (l:List α) (d:α) (p:α→Bool) {k:Nat} (h:k<l.length):(l.take (k+1)).all p=((l.take k).all p&&p (l.getD k d)):=by
 rw[AX l d h,ABK];simp
def J6 (x:AI) (done:List ByteArray):Bool:=x.2.1.all fun s=>AW done s
def ZH:Ad:={ ins:=[u3,CA],pre:=fun _=>True,out:=fun(x,l,_)=>[.p .bool (J6 x l)],lend:=true }
attribute [local go_sem] ZH
theorem A1x:Ag Tryz.prog 153 ZH:=by
 refine fK [0,1,2,4,5,10,20] Tryz.func153 Tryz.ntmps153 (AF G2 AG) ?_;rintro w0 O0 ⟨⟨nm,sup,d⟩,l,u⟩ c ⟨⟨-,⟨e,-⟩,-⟩,-⟩ -;simp only[AO]at e;simp only[ZH,AM];repeat'(first|exact trivial|refine eS rfl ?_|refine AB ?_|refine rX c ?_ ?_|refine rC ?_ ?_<;>intro a<;>try(cases a;done))
 refine AH (ι:={k:Nat//k≤sup.length∧(sup.take k).all (fun s=>AW l s)=true}) (fun k=>⟨[(1,.p CA l),(2,.bp 2 [] 0),(5,.p (.int .i64) (k.1:Int))],[(2,.box 111 true [.p T9 nm,.p CA sup,.p b5 d])]⟩) (fun k=>sup.length-k.1) ⟨0,by simp⟩ (eW [(2,.nm 2)]) (fun k=>?_)
 ·obtain⟨k,hk,hf⟩:=k;simp only;repeat'(first|exact trivial|refine eS rfl ?_|refine AB ?_|refine rX c ?_ ?_|refine rC ?_ ?_<;>intro a<;>try(cases a;done))
  ·exact a
  ·have b:k<sup.length:=by exact eV
   have h1:J6 (nm,sup,d) l=false:=by
    unfold J6;refine ACe.2 fun h=>?_;have:=IN.1 h _ (AD sup ByteArray.empty b);rw[a]at this;cases this
   exact fI c [.tmp 4] (by rw[h1];exact eR)
  ·have:=e;exact eV
  ·have b:k<sup.length:=by exact eV
   refine⟨⟨k+1,by omega,?_⟩,by simp only;omega,AC [(2,.nm 2)] rfl rfl ?_ ?_⟩
   ·rw[Gi sup ByteArray.empty _ b,hf];exact a
   ·exact eN
   ·exact eN
  ·have b:sup.take k=sup:=An (by exact eV);rw[b]at hf;have h1:J6 (nm,sup,d) l=true:=hf;exact fI c [.tmp 4] (by rw[h1];exact eR)
def OW (d:List AI):Nat→List AI→Int
 | _,[]=>0
 | k,x :: l=>if Ey x.1 false=false then 1 else if Am d x.1<(k:Int) then 4 else OW d (k+1) l
def Cm (d:List AI):Int:=OW d 0 d
theorem MY (d l:List AI) {k:Nat} (h:k<l.length):OW d k (l.drop k)=if Ey (l.getD k d0).1 false=false then 1 else if Am d (l.getD k d0).1<(k:Int) then 4 else OW d (k+1) (l.drop (k+1)):=by
 rw[ON h];have e:l.getD k d0=l[k]:=by simp[AS,h]
 rw[e];rfl
def ZI:Ad:={ ins:=[FW],pre:=fun _=>True,out:=fun(l,_)=>[.p WV (Cm l)] }
attribute [local go_sem] ZI
theorem A1y:Ag Tryz.prog 127 ZI:=by
 refine fK [0,2,3,7,16,25] Tryz.func127 Tryz.ntmps127 (AF A4u (AF MW AG)) ?_;rintro w0 O0 ⟨l,u⟩ c ⟨⟨e,-⟩,-⟩ -;simp only[AO]at e;simp only[ZI,AM];repeat'(first|exact trivial|refine eS rfl ?_|refine AB ?_|refine rX c ?_ ?_|refine rC ?_ ?_<;>intro a<;>try(cases a;done))
 refine AH (ι:={k:Nat//k≤l.length∧OW l k (l.drop k)=Cm l}) (fun k=>⟨[(0,.p FW l),(3,.p (.int .i64) (k.1:Int))],[]⟩) (fun k=>l.length-k.1) ⟨0,NO _,rfl⟩ (eW []) (fun k=>?_)
 ·obtain⟨k,hk,hf⟩:=k;simp only;repeat'(first|exact trivial|refine eS rfl ?_|refine AB ?_|refine rX c ?_ ?_|refine rC ?_ ?_<;>intro a<;>try(cases a;done))
  ·exact a
  ·have b:k<l.length:=by exact eV
   rw[MY l l b,BY a]at hf;exact fI c [.tmp 2] (by rw[←hf];exact eR)
  ·assumption
  ·rename_i d;have b:k<l.length:=by exact eV
   rw[MY l l b,At (by rw[d];simp),BY a]at hf;exact fI c [.tmp 2] (by rw[←hf];exact eR)
  ·exact eV
  ·rename_i d;have b:k<l.length:=by exact eV
   rw[MY l l b,At (by rw[d];simp),At (ABc.2 a)]at hf;exact⟨⟨k+1,by omega,hf⟩,by simp only;omega,eW []⟩
  ·have b:l.drop k=[]:=IF (by exact eV);rw[b]at hf;exact fI c [.tmp 2] (by rw[←hf];first|exact eR|refine bW ?_;rfl)
def Sp (d:List AI) (l:List ByteArray):Nat→List ByteArray→Int
 | _,[]=>0
 | k,x :: r=>if Am d x<0 then 5 else if AW (l.take k) x=true then 4 else Sp d l (k+1) r
def LN (d:List AI):List AI→Int
 | []=>0
 | x :: l=>if Sp d x.2.1 0 x.2.1≠0 then Sp d x.2.1 0 x.2.1 else LN d l
def LO (d:List AI):Int:=LN d d
theorem RG (d:List AI) (l:List ByteArray) {k:Nat} (h:k<l.length):Sp d l k (l.drop k)=if Am d (l.getD k ByteArray.empty)<0 then 5 else if AW (l.take k) (l.getD k ByteArray.empty)=true then 4 else Sp d l (k+1) (l.drop (k+1)):=by
 rw[ON h];have e:l.getD k ByteArray.empty=l[k]:=by simp[AS,h]
 rw[e];rfl
theorem ZJ (d l:List AI) {k:Nat} (h:k<l.length):LN d (l.drop k)=if Sp d (l.getD k d0).2.1 0 (l.getD k d0).2.1≠0 then Sp d (l.getD k d0).2.1 0 (l.getD k d0).2.1 else LN d (l.drop (k+1)):=by
 rw[ON h];have e:l.getD k d0=l[k]:=by simp[AS,h]
 rw[e];rfl
def S9:Ad:={ ins:=[FW],pre:=fun _=>True,out:=fun(l,_)=>[.p WV (LO l)] }
attribute [local go_sem] S9
theorem vA:Ag Tryz.prog 128 S9:=by
 refine fK [0,2,3,4,5,9,20,29,37] Tryz.func128 Tryz.ntmps128 (AF G2 (AF MW AG)) ?_;rintro w0 O0 ⟨l,u⟩ d ⟨⟨h,g⟩,-⟩ -;simp only[AO]at h;simp only[S9,AM];repeat'(first|exact trivial|refine eS rfl ?_|refine AB ?_|refine rX d ?_ ?_|refine rC ?_ ?_<;>intro a<;>try(cases a;done))
 refine AH (ι:={i:Nat//i≤l.length∧LN l (l.drop i)=LO l}) (fun i=>⟨[(0,.p FW l),(3,.p (.int .i64) (i.1:Int))],[]⟩) (fun i=>l.length-i.1) ⟨0,NO _,rfl⟩ (eW []) (fun i=>?_)
 ·obtain⟨i,hi,hf⟩:=i;simp only;repeat'(first|exact trivial|refine eS rfl ?_|refine AB ?_|refine rX d ?_ ?_|refine rC ?_ ?_<;>intro a<;>try(cases a;done))
  ·exact a
  ·have f:i<l.length:=by exact eV
   have j:=g _ (AD l d0 f);have m:(l.getD i d0).2.1.length≤AO:=j.2.1.1;simp only[AO]at m;rw[ZJ l l f]at hf;generalize (l.getD i d0).2.1=sup at *;refine AH (ι:={k:Nat//k≤sup.length∧Sp l sup k (sup.drop k)=Sp l sup 0 sup}) (fun k=>⟨[(0,.p FW l),(3,.p (.int .i64) (i:Int)),(4,.p CA sup),(5,.p (.int .i64) (k.1:Int))],[]⟩) (fun k=>sup.length-k.1) ⟨0,NO _,rfl⟩ (eW []) (fun k=>?_)
   ·obtain⟨k,hk,c⟩:=k;simp only;repeat'(first|exact trivial|refine eS rfl ?_|refine AB ?_|refine rX d ?_ ?_|refine rC ?_ ?_<;>intro a<;>try(cases a;done))
    ·exact a
    ·have b:k<sup.length:=by exact eV
     rw[RG l sup b,BY a]at c;rw[←c,BY (by decide)]at hf;exact fI d [.tmp 2] (by rw[←hf];exact eR)
    ·exact eV
    ·rename_i e;have b:k<sup.length:=by exact eV
     rw[RG l sup b,At (ABc.2 e),BY a]at c;rw[←c,BY (by decide)]at hf;exact fI d [.tmp 2] (by rw[←hf];exact eR)
    ·exact eV
    ·rename_i e;have b:k<sup.length:=by exact eV
     rw[RG l sup b,At (ABc.2 e),At (by rw[a];simp)]at c;exact⟨⟨k+1,by omega,c⟩,by simp only;omega,eW []⟩
    ·exact eV
    ·have b:sup.drop k=[]:=IF (by exact eV);rw[b]at c;rw[←c,At (by simp[Sp])]at hf;exact⟨⟨i+1,by omega,hf⟩,by simp only;omega,eW []⟩
  ·have b:l.drop i=[]:=IF (by exact eV);rw[b]at hf;exact fI d [.tmp 2] (by rw[←hf];first|exact eR|refine bW ?_;rfl)
end
section
attribute [local go_sem] OV ZH J5 ZD
theorem FA {α β:Type} (g:β→α→β) (l:List α) (d:α) (t:β) {i:Nat} (hi:i<l.length):(l.take (i+1)).foldl g t=g ((l.take i).foldl g t) (l.getD i d):=by
 rw[AX l d hi,ABu];rfl
theorem MZ (l:List ByteArray) (s:ByteArray):(Ed l s).length≤l.length+1:=by
 unfold Ed;split
 ·omega
 ·have:=A5S (fun x=>Hd x s) l;have a:atF l s≤l.length:=this;simp only[Do,OS,AAr,aS];omega
def AN (l:List AI):List ByteArray:=l.foldl (fun o x=>Ed o x.1) []
theorem D6 (l:List AI) (k:Nat):(AN (l.take k)).length≤k:=by
 have key:∀(l:List AI) (o:List ByteArray),(l.foldl (fun o x=>Ed o x.1) o).length≤o.length+l.length:=by
  intro l;induction l with
  | nil=>intro o;simp
  | cons x l b =>
   intro o;have h1:=b (Ed o x.1);have a:=MZ o x.1;simp only[O5,OF];omega
 have h1:=key (l.take k) [];have a:=AAo k l;unfold AN;simp only[AAW]at h1;omega
def Ps:Ad:={ ins:=[FW],pre:=fun(l,_)=>List.length l≤100000,out:=fun(l,_)=>[.p CA (AN l)] }
attribute [local go_sem] Ps
theorem Xc:Ag Tryz.prog 98 Ps:=by
 refine fK [0,2,3,4,8] Tryz.func98 Tryz.ntmps98 (AF RD AG) ?_;rintro w0 O0 ⟨l,u⟩ b-d;have d:l.length≤100000:=d;simp only[Ps,AM];repeat'(first|exact trivial|refine eS rfl ?_|refine AB ?_|refine rX b ?_ ?_|refine rC ?_ ?_<;>intro a<;>try(cases a;done))
 refine AH (ι:={k:Nat//k≤l.length}) (fun k=>⟨[(0,.p FW l),(3,.p CA (AN (l.take k.1))),(4,.p (.int .i64) (k.1:Int))],[]⟩) (fun k=>l.length-k.1) ⟨0,NO _⟩ (AC [] rfl rfl ?_ ?_) (fun k=>?_)
 ·exact eN
 ·refine eM ?_;rfl
 ·obtain⟨k,hk⟩:=k;have hn:=D6 l k;have hs:=fun h:k<l.length=>FA (fun(o:List ByteArray) (x:AI)=>Ed o x.1) l d0 [] h;simp only;repeat'(first|exact trivial|refine eS rfl ?_|refine AB ?_|refine rX b ?_ ?_|refine rC ?_ ?_<;>intro a<;>try(cases a;done))
  ·exact⟨a,by omega⟩
  ·exact eV
  ·have c:k<l.length:=by exact eV
   have e:=hs c;refine⟨⟨k+1,by omega⟩,by simp only;omega,AC [] rfl rfl ?_ ?_⟩
   ·exact eN
   ·simp only;have e:AN (l.take (k+1))=Ed (AN (l.take k)) (l.getD k d0).1:=e;rw[e];exact eN
  ·have c:l.take k=l:=An (by exact eV);rw[c];exact fI b [.tmp 2]
def Ja (out:List ByteArray) (s:Bool×ByteArray) (x:AI):Bool×ByteArray :=
 if (AW out x.1||!J6 x out)=true then s else (true,if (!s.1||Hd x.1 s.2)=true then x.1 else s.2)
def Id (d:List AI) (out:List ByteArray):Bool×ByteArray:=d.foldl (Ja out) (false,ByteArray.empty)
def Jb (d:List AI):Nat→List ByteArray→List ByteArray
 | 0,out=>out
 | n+1,out=>if (Id d out).1=true then Jb d n (out++[(Id d out).2]) else out
def Bh (d:List AI):List ByteArray:=Jb d d.length []
def Ie (d:List AI) (out:List ByteArray):Nat:=d.countP fun x=>!AW out x.1
theorem Cw (s:ByteArray):Ab s s=true:=by unfold Ab;simp
theorem OX (out:List ByteArray) (s x:ByteArray):AW (out++[s]) x=(AW out x||Ab s x):=by
 unfold AW;simp[AC4]
theorem vB (d:List AI) (out:List ByteArray) (h:(Id d out).1=true):∃x∈d,x.1=(Id d out).2∧AW out x.1=false:=by
 have key:∀(l:List AI) (s:Bool×ByteArray),(∀x∈l,x∈d)→(s.1=true→∃x∈d,x.1=s.2∧AW out x.1=false)→(l.foldl (Ja out) s).1=true →
   ∃x∈d,x.1=(l.foldl (Ja out) s).2∧AW out x.1=false:=by
  intro l;induction l with
  | nil=>intro s _ hs h;exact hs h
  | cons y l g =>
   intro s c hs h;rw[O5]at h ⊢;refine g _ (fun x e=>c x (by simp[e])) (fun hp=>?_) h;unfold Ja at hp ⊢;split
   ·rename_i a;rw[BY a]at hp;exact hs hp
   ·rename_i a;simp only;have f:AW out y.1=false:=by
     cases hh:AW out y.1 with
     | false=>rfl
     | true=>rw[hh]at a;simp at a
    split
    ·exact⟨y,c y (by simp),rfl,f⟩
    ·rename_i b;have:s.1=true:=by
      cases hh:s.1 with
      | true=>rfl
      | false=>rw[hh]at b;simp at b
     exact hs this
 exact key d _ (fun _ h=>h) (fun h=>by cases h) h
theorem gQ {d:List AI} {out:List ByteArray} (h:(Id d out).1=true):Ie d (out++[(Id d out).2])<Ie d out:=by
 obtain⟨x,e,h1,c⟩:=vB d out h;generalize (Id d out).2=s at *;unfold Ie;have key:∀l:List AI,(l.countP fun y=>!AW (out++[s]) y.1)≤l.countP fun y=>!AW out y.1:=by
  intro l;refine List.countP_mono_left fun y _ a=>?_;rw[OX]at a;cases hh:AW out y.1 with
  | false=>rfl
  | true=>rw[hh]at a;simp at a
 obtain⟨f,g,rfl⟩:=List.append_of_mem e;rw[ACB,ACB,ABi,ABi];have i:=key f;have j:=key g;have b:AW (out++[s]) x.1=true:=by rw[OX,h1,Cw,Bool.or_true]
 rw[b,c];simp only[AC7,ACg,AAQ];simp only[AAT,ABk];omega
def ZK:Ad:={ ins:=[FW],pre:=fun(l,_)=>List.length l≤100000,out:=fun(l,_)=>[.p CA (Bh l)] }
theorem vC:Ag Tryz.prog 129 ZK:=by
 refine fK [0,2,3,4,5,6,7,11,29,40,46] Tryz.func129 Tryz.ntmps129 (AF G2 (AF A1x AG)) ?_;rintro w0 O0 ⟨d,u⟩ j-r;have r:d.length≤100000:=r;simp only[ZK,AM];repeat'(first|exact trivial|refine eS rfl ?_|refine AB ?_|refine rX j ?_ ?_|refine rC ?_ ?_<;>intro a<;>try(cases a;done))
 refine AH (ι:={x:Nat×List ByteArray×Bool//x.1+x.2.1.length≤d.length∧(x.2.2=true→Ie d x.2.1≤x.1∧Jb d x.1 x.2.1=Bh d)∧(x.2.2=false→x.2.1=Bh d)}) (fun x=>⟨[(0,.p FW d),(3,.sr 50 T9 0 x.1.2.1.length),(4,.p .bool x.1.2.2)],[(50,.arr 9 T9 x.1.2.1)]⟩) (fun x=>(if x.1.2.2=true then x.1.1+1 else 0)) ⟨(d.length,[],true),by simp,fun _=>⟨List.countP_le_length,rfl⟩,fun h=>by cases h⟩ (eW [(50,.nil)]) (fun x=>?_)
 ·obtain⟨⟨n,out,C⟩,s,t,v⟩:=x;simp only at s t v;simp only;repeat'(first|exact trivial|refine eS rfl ?_|refine AB ?_|refine rX j ?_ ?_|refine rC ?_ ?_<;>intro a<;>try(cases a;done))
  ·subst a;obtain⟨hu,hp⟩:=t rfl;have B:({ data:=#[] }:ByteArray).size≤AO:=by decide
   rw[BY B];refine AH (ι:={y:Nat×Bool×ByteArray//y.1≤d.length∧(d.take y.1).foldl (Ja out) (false,ByteArray.empty)=y.2}) (fun y=>⟨[(0,.p FW d),(3,.sr 50 T9 0 out.length),(4,.p .bool y.1.2.1),(5,.p T9 y.1.2.2),(6,.p (.int .i64) (y.1.1:Int))],[(50,.arr 9 T9 out)]⟩) (fun y=>d.length-y.1.1) ⟨(0,false,ByteArray.empty),by simp,rfl⟩ (AC [(50,.nm 50)] rfl rfl ?_ ?_) (fun y=>?_)
   ·exact eN
   ·refine eM ?_;rfl
   ·obtain⟨⟨k,w,b⟩,hk,c⟩:=y;simp only at hk c;have q:∀h:k<d.length,(d.take (k+1)).foldl (Ja out) (false,ByteArray.empty)=Ja out (w,b) (d.getD k d0):=fun h=>by
     rw[FA (Ja out) d d0 _ h,c]
    simp only;repeat'(first|exact trivial|refine eS rfl ?_|refine AB ?_|refine rX j ?_ ?_|refine rC ?_ ?_<;>intro a<;>try(cases a;done))
    ·exact⟨a,fun _=>a⟩
    ·exact eV
    ·have g:k<d.length:=by exact eV
     refine⟨⟨(k+1,w,b),by simp only;omega,?_⟩,by simp only;omega,AC [(50,.nm 50)] rfl rfl ?_ ?_⟩
     ·simp only;rw[q g];unfold Ja;rw[BY];rw[AAi,bY];exact a
     ·exact eN
     ·exact eN
    ·exact fun _=>by assumption
    ·assumption
    ·exact eV
    ·rename_i f;have g:k<d.length:=by exact eV
     refine⟨⟨(k+1,true,(d.getD k d0).1),by simp only;omega,?_⟩,by simp only;omega,AC [(50,.nm 50)] rfl rfl ?_ ?_⟩
     ·simp only;rw[q g];unfold Ja;rw[At (by rw[f.1,f.2];simp),BY (by rw[AAi,bY];exact a)]
     ·exact eN
     ·exact eN
    ·exact eV
    ·rename_i f;have g:k<d.length:=by exact eV
     refine⟨⟨(k+1,true,b),by simp only;omega,?_⟩,by simp only;omega,AC [(50,.nm 50)] rfl rfl ?_ ?_⟩
     ·simp only;rw[q g];unfold Ja;rw[At (by rw[f.1,f.2];simp),At (by rw[AAi,bY];rintro (h|h)<;>simp_all)]
     ·exact eN
     ·exact eN
    ·simp only[AO];dsimp only[Ty.den]at *;omega
    ·subst a;have l:d.take k=d:=An (by exact eV);rw[l]at c;have i:Id d out=(true,b):=c;have m:=gQ (d:=d) (out:=out) (by rw[i]);rw[i]at m;obtain⟨e,rfl⟩:∃e,n=e+1:=⟨n-1,by omega⟩;have o:Jb d e (out++[b])=Bh d:=by
      rw[←hp];show _=if (Id d out).1=true then Jb d e (out++[(Id d out).2]) else out
      rw[i,BY rfl]
     have m:Ie d (out++[b])<Ie d out:=m;have A:Ie d (out++[b])≤e:=by omega
     exact⟨⟨(e,out++[b],true),by simp only[Do,aS];omega,fun _=>⟨A,o⟩,fun h=>by cases h⟩,by simp,eW [(50,.nm 50)]⟩
    ·subst a;have l:d.take k=d:=An (by exact eV);rw[l]at c;have i:Id d out=(false,b):=c;have o:out=Bh d:=by
      rw[←hp];cases n with
      | zero=>rfl
      | succ n =>
       show _=if (Id d out).1=true then Jb d n (out++[(Id d out).2]) else out
       rw[i,At (by simp)]
     exact⟨⟨(n,out,false),s,(fun h=>by cases h),fun _=>o⟩,by simp,eW [(50,.nm 50)]⟩
  ·subst a;have z:=v rfl;rw[z];refine Gg [50] ?_;exact fI j [.tmp 2]
end
section
attribute [local go_sem] ZG ZI S9 ZK
def Ig (d:List AI):Nat:=d.countP fun x=>x.2.1.length==0
theorem gR (d:List AI) {k:Nat} (h:k<d.length):Ig (d.take (k+1))=Ig (d.take k)+if ((d.getD k d0).2.1.length==0)=true then 1 else 0:=by
 unfold Ig;rw[AX d d0 h,ACB,ABi,List.countP_nil];omega
theorem vD (d:List AI):Ig d≤d.length:=List.countP_le_length
def A3 (d:List AI):Int :=
 if FF d≠0 then FF d else if Cm d≠0 then Cm d else if LO d≠0 then LO d else if Ig d≠1 then 1 else if (Bh d).length<d.length then 6 else 0
theorem SK {d:List AI} (h:FF d=0):d.length≤256:=by
 unfold FF at h;split at h
 ·cases h
 ·omega
def TA:Ad:={ ins:=[FW],pre:=fun _=>True,out:=fun(l,_)=>[.p WV (A3 l)] }
attribute [local go_sem] TA
theorem vE:Ag Tryz.prog 97 TA:=by
 refine fK [0,2,3,4,5,6,7,11,16,21,26,35,39,45] Tryz.func97 Tryz.ntmps97 (AF A1w (AF A1y (AF vA (AF vC AG)))) ?_;rintro w0 O0 ⟨d,u⟩ c - -;simp only[TA,AM];repeat'(first|exact trivial|refine eS rfl ?_|refine AB ?_|refine rX c ?_ ?_|refine rC ?_ ?_<;>intro a<;>try(cases a;done))
 ·have h1:A3 d=FF d:=by unfold A3;rw[BY a]
  exact fI c [.tmp 2] (by rw[h1];exact eR)
 ·rename_i hs;have hs:FF d=0:=by simpa using hs
  have h1:A3 d=Cm d:=by unfold A3;rw[At (by rw[hs];simp),BY a]
  exact fI c [.tmp 2] (by rw[h1];exact eR)
 ·rename_i hs hn;have hs:FF d=0:=by simpa using hs
  have hn:Cm d=0:=by simpa using hn
  have h1:A3 d=LO d:=by unfold A3;rw[At (by rw[hs];simp),At (by rw[hn];simp),BY a]
  exact fI c [.tmp 2] (by rw[h1];exact eR)
 ·rename_i hs hn;have hs:FF d=0:=by simpa using hs
  have hn:Cm d=0:=by simpa using hn
  have hu:LO d=0:=by simpa using a
  have i:=SK hs;have h1:A3 d=if Ig d≠1 then 1 else if (Bh d).length<d.length then 6 else 0:=by
   unfold A3;rw[At (by rw[hs];simp),At (by rw[hn];simp),At (by rw[hu];simp)]
  refine AH (ι:={k:Nat//k≤d.length}) (fun k=>⟨[(0,.p FW d),(6,.p (.int .i64) (Ig (d.take k.1):Int)),(7,.p (.int .i64) (k.1:Int))],[]⟩) (fun k=>d.length-k.1) ⟨0,NO _⟩ (AC [] rfl rfl ?_ ?_) (fun k=>?_)
  ·exact eN
  ·refine eM ?_;rfl
  ·obtain⟨k,hk⟩:=k;have j:=vD (d.take k);have l:=AAo k d;have g:=fun h:k<d.length=>gR d h;simp only;repeat'(first|exact trivial|refine eS rfl ?_|refine AB ?_|refine rX c ?_ ?_|refine rC ?_ ?_<;>intro a<;>try(cases a;done))
   ·exact a
   ·exact eV
   ·exact eV
   ·have b:k<d.length:=by exact eV
    have e:=g b;rw[BY (by rw[AAq];exact Int.ofNat_eq_zero.1 a)]at e;refine⟨⟨k+1,by omega⟩,by simp only;omega,AC [] rfl rfl ?_ ?_⟩
    ·exact eN
    ·simp only[e];exact eN
   ·exact eV
   ·have b:k<d.length:=by exact eV
    have e:=g b;rw[At (by rw[AAq];exact fun h=>a (Int.ofNat_eq_zero.2 h))]at e;refine⟨⟨k+1,by omega⟩,by simp only;omega,AC [] rfl rfl ?_ ?_⟩
    ·exact eN
    ·simp only[e];exact eN
   ·have b:d.take k=d:=An (by exact eV);rw[b]at a;rw[BY (fun h=>a (by rw[h];rfl))]at h1;exact fI c [.tmp 2] (by rw[h1];exact eR)
   ·show d.length≤100000;omega
   ·rename_i f;have b:d.take k=d:=An (by exact eV);rw[b]at f;have f:(Ig d:Int)=1:=by simpa using f
    rw[At (by omega),BY (OR.1 a)]at h1;exact fI c [.tmp 2] (by rw[h1];exact eR)
   ·rename_i f;have b:d.take k=d:=An (by exact eV);rw[b]at f;have f:(Ig d:Int)=1:=by simpa using f
    rw[At (by omega),At (fun h=>absurd (f8.1 a) (Nat.not_le.2 h))]at h1;exact fI c [.tmp 2] (by rw[h1];exact eR)
end
section
attribute [local go_sem] OV J5 ZD
def KW (o:List ByteArray) (s:ByteArray):List ByteArray:=if AW o s=true then o else o++[s]
def Ma (d:List AI) (s:ByteArray):List ByteArray:=(d.getD (Am d s).toNat d0).2.1
def Ih (d:List AI):Nat→Nat→List ByteArray→List ByteArray
 | 0,_,o=>o
 | n+1,i,o=>if i<o.length then Ih d n (i+1) ((Ma d (o.getD i ByteArray.empty)).foldl KW o) else o
def KX (l:List ByteArray):List ByteArray:=l.foldl Ed []
theorem Xd (l:List ByteArray):(KX l).length≤l.length:=by
 have key:∀(l o:List ByteArray),(l.foldl Ed o).length≤o.length+l.length:=by
  intro l;induction l with
  | nil=>intro o;simp
  | cons x l a =>
   intro o;have h1:=a (Ed o x);have b:=MZ o x;simp only[O5,OF];omega
 have:=key l [];simpa[KX] using this
def LP (d:List AI) (s:ByteArray):List ByteArray:=if Am d s<0 then [] else KX (Ih d d.length 0 [s])
def Pt (d:List AI):Prop:=∀x∈d,∀s∈x.2.1,0≤Am d s
theorem Xe (s:ByteArray):∀(l:List AI) (k:Nat),Cv s k l=-1∨((k:Int)≤Cv s k l∧Cv s k l<(k:Int)+l.length∧Ab (l.getD ((Cv s k l).toNat-k) d0).1 s=true)
 | [],_=>.inl rfl
 | x :: l,k=>by
  simp only[Cv];split
  ·rename_i h;right;refine⟨by omega,by simp only[OF];omega,?_⟩;have:((k:Int).toNat-k)=0:=by omega
   rw[this];exact h
  ·rcases Xe s l (k+1) with h|⟨h1,b,a⟩
   ·exact .inl h
   ·right;refine⟨by omega,by simp only[OF];omega,?_⟩;have:((Cv s (k+1) l).toNat-k)=((Cv s (k+1) l).toNat-(k+1))+1:=by omega
    rw[this];exact a
theorem DY (d:List AI) (s:ByteArray):Am d s<0∨(0≤Am d s∧Am d s<(d.length:Int)∧Ab (d.getD (Am d s).toNat d0).1 s=true):=by
 rcases Xe s d 0 with h|⟨h1,a,b⟩
 ·left;show Cv s 0 d<0;omega
 ·have a:Am d s<((0:Nat):Int)+d.length:=a;exact .inr ⟨h1,by omega,b⟩
theorem IA {a b:ByteArray}:Ab a b=true↔a.toList=b.toList:=by unfold Ab;simp
theorem D7 {a b:ByteArray} (h:Ab a b=true):Ab b a=true:=IA.2 (IA.1 h).symm
theorem BT {a b c:ByteArray} (h:Ab a b=true) (g:Ab b c=true):Ab a c=true:=IA.2 ((IA.1 h).trans (IA.1 g))
structure ZL (d:List AI) (o:List ByteArray):Prop where
 decl:∀s∈o,0≤Am d s
 nd:o.Pairwise fun a b=>Ab a b=false
theorem LQ (d:List AI):∀ {o:List ByteArray},ZL d o→(o.map fun s=>(Am d s).toNat).Nodup
 | [],_=>by simp
 | s :: o,h=>by
  rw[AA4,AAt];have c:=AAx.1 h.nd;refine⟨fun i=>?_,LQ d ⟨fun x a=>h.decl x (by simp[a]),c.2⟩⟩;obtain⟨x,a,e⟩:=GO.1 i;have h1:=h.decl s (by simp);have j:=h.decl x (by simp[a]);rcases DY d s with g|⟨_,_,f⟩
  ·omega
  ·rcases DY d x with g|⟨_,_,b⟩
   ·omega
   ·rw[e]at b;have:=c.1 x a;rw[BT (D7 f) b]at this;cases this
theorem ZL.len {d:List AI} {o:List ByteArray} (h:ZL d o):o.length≤d.length:=by
 have:=EX d.length (o.map fun s=>(Am d s).toNat) (LQ d h) (fun j a=>by
  obtain⟨s,hs,rfl⟩:=GO.1 a;have h1:=h.decl s hs;rcases DY d s with g|⟨_,g,_⟩<;>omega)
 simpa using this
theorem Pu {o:List ByteArray} {s:ByteArray} (h:AW o s=false):∀x∈o,Ab x s=false:=fun x a=>by
 cases hh:Ab x s with
 | false=>rfl
 | true=>exact absurd h (by rw[show AW o s=true from gO.2 ⟨x,a,hh⟩];simp)
theorem q9 {d:List AI} {o:List ByteArray} (h:ZL d o) {s:ByteArray} (hs:0≤Am d s):ZL d (KW o s):=by
 unfold KW;split
 ·exact h
 ·rename_i e;have e:AW o s=false:=by simpa using e
  refine⟨fun x c=>?_,?_⟩
  ·rcases Of.1 c with c|c
   ·exact h.decl x c
   ·have:x=s:=by simpa using c
    rw[this];exact hs
  ·rw[ABs];refine⟨h.nd,by simp,fun a ha b f=>?_⟩;have:b=s:=by simpa using f
   rw[this];exact Pu e a ha
theorem gS {d:List AI}:∀ {l o:List ByteArray},(∀s∈l,0≤Am d s)→ZL d o→ZL d (l.foldl KW o)∧o.length≤(l.foldl KW o).length
 | [],o,_,h=>⟨h,Is _⟩
 | s :: l,o,a,h=>by
  obtain⟨b,c⟩:=gS (l:=l) (fun x e=>a x (by simp[e])) (q9 h (a s (by simp)));refine⟨b,TO ?_ c⟩;unfold KW;split<;>simp
theorem gT {d:List AI} (b:Pt d) (s:ByteArray):∀x∈Ma d s,0≤Am d x:=by
 intro x a;unfold Ma at a;by_cases h:(Am d s).toNat<d.length
 ·exact b _ (AD d d0 h) x a
 ·rw[AS,dO (by omega)]at a;cases a
def mY:Ad:={ ins:=[FW,T9],pre:=fun(d,_,_)=>Pt d∧List.length d≤256,out:=fun(d,s,_)=>[.p CA (LP d s)] }
theorem A1z:Ag Tryz.prog 155 mY:=by
 refine fK [0,1,4,5,6,7,8,9,10,14,20,36,45,56] Tryz.func155 Tryz.ntmps155 (AF MW (AF G2 (AF RD AG))) ?_;rintro w0 O0 ⟨d,s,u⟩ b ⟨⟨Q,G⟩,-⟩ ⟨O,z⟩;have z:d.length≤256:=z;simp only[mY,AM];repeat'(first|exact trivial|refine eS rfl ?_|refine AB ?_|refine rX b ?_ ?_|refine rC ?_ ?_<;>intro a<;>try(cases a;done))
 ·have h1:LP d s=[]:=by unfold LP;rw[BY a]
  exact fI b [.tmp 4] (by rw[h1];exact eR)
 ·have h1:LP d s=KX (Ih d d.length 0 [s]):=by unfold LP;rw[At (ABc.2 a)]
  have F:ZL d [s]:=⟨fun x y=>by
   have:x=s:=by simpa using y
   rw[this];exact a,by simp⟩
  refine AH (ι:={x:Nat×List ByteArray//x.1≤x.2.length∧ZL d x.2∧Ih d (d.length-x.1) x.1 x.2=Ih d d.length 0 [s]}) (fun x=>⟨[(0,.p FW d),(1,.p T9 s),(5,.sr 16 T9 0 x.1.2.length),(6,.p (.int .i64) (x.1.1:Int))],[(16,.arr 9 T9 x.1.2)]⟩) (fun x=>d.length-x.1.1) ⟨(0,[s]),by simp,F,rfl⟩ (eW [(16,.nm 16)]) (fun x=>?_)
  ·obtain⟨⟨i,o⟩,hi,c,t⟩:=x;simp only at hi c t;have U:=c.len;simp only;repeat'(first|exact trivial|refine eS rfl ?_|refine AB ?_|refine rX b ?_ ?_|refine rC ?_ ?_<;>intro a<;>try(cases a;done))
   ·have q:i<o.length:=by exact eV
    have A:=c.decl _ (AD o ByteArray.empty q);refine⟨a,A,?_⟩;rcases DY d (o.getD i ByteArray.empty) with g|⟨_,g,_⟩
    ·omega
    ·exact g
   ·have q:i<o.length:=by exact eV
    have A:=c.decl _ (AD o ByteArray.empty q);have K:=gT O (o.getD i ByteArray.empty);have C:Ih d (d.length-(i+1)) (i+1) ((Ma d (o.getD i ByteArray.empty)).foldl KW o)=Ih d d.length 0 [s]:=by
     rw[←t];obtain⟨m,B⟩:∃m,d.length-i=m+1:=⟨d.length-i-1,by omega⟩;have H:d.length-(i+1)=m:=by omega
     rw[B,H];show _=if i<o.length then Ih d m (i+1) ((Ma d (o.getD i ByteArray.empty)).foldl KW o) else o
     rw[BY q]
    have M:(Ma d (o.getD i ByteArray.empty)).length≤AO:=by
     rcases DY d (o.getD i ByteArray.empty) with g|⟨_,g,_⟩
     ·omega
     ·exact(G _ (AD d d0 (k:=(Am d (o.getD i ByteArray.empty)).toNat) (by omega))).2.1.1
    have N:(List.getD d (Am d (o.getD i ByteArray.empty)).toNat (ByteArray.empty,[],[])).2.1=Ma d (o.getD i ByteArray.empty):=rfl;rw[N];generalize Ma d (o.getD i ByteArray.empty)=sup at *;simp only[AO]at M;refine AH (ι:={k:Nat//k≤sup.length}) (fun k=>⟨[(0,.p FW d),(1,.p T9 s),(5,.sr 16 T9 0 ((sup.take k.1).foldl KW o).length),(6,.p (.int .i64) (i:Int)),(7,.p CA sup),(8,.p (.int .i64) (k.1:Int))],[(16,.arr 9 T9 ((sup.take k.1).foldl KW o))]⟩) (fun k=>sup.length-k.1) ⟨0,NO _⟩ (AC [(16,.nm 16)] rfl rfl ?_ ?_) (fun k=>?_)
    ·refine eM ?_;rfl
    ·refine eM ?_;rfl
    ·obtain⟨k,hk⟩:=k;have w:=gS (l:=sup.take k) (o:=o) (fun x y=>K x (AAu y)) c;have S:=w.1.len;have E:=fun h:k<sup.length=>FA KW sup ByteArray.empty o h;simp only;generalize D:(sup.take k).foldl KW o=n at *;repeat'(first|exact trivial|refine eS rfl ?_|refine AB ?_|refine rX b ?_ ?_|refine rC ?_ ?_<;>intro a<;>try(cases a;done))
     ·exact a
     ·refine⟨by exact eV,?_⟩;simp only[AO];dsimp only[Ty.den]at *;omega
     ·exact eV
     ·have f:k<sup.length:=by exact eV
      have e:=E f;have r:KW n (sup.getD k ByteArray.empty)=n++[sup.getD k ByteArray.empty]:=by unfold KW;rw[At (by rw[a];simp)]
      rw[r]at e;refine⟨⟨k+1,by omega⟩,by simp only;omega,AC [(16,.nm 16)] rfl rfl ?_ ?_⟩
      ·simp only[e];exact eN
      ·simp only[e];exact eN
     ·exact eV
     ·have f:k<sup.length:=by exact eV
      have e:=E f;have r:KW n (sup.getD k ByteArray.empty)=n:=by unfold KW;rw[BY a]
      rw[r]at e;refine⟨⟨k+1,by omega⟩,by simp only;omega,AC [(16,.nm 16)] rfl rfl ?_ ?_⟩
      ·simp only[e];exact eN
      ·simp only[e];exact eN
     ·exact eV
     ·have f:sup.take k=sup:=An (by exact eV);rw[f]at D;rw[D]at C;have J:=w.1;have T:=w.2;exact⟨⟨(i+1,n),by simp only;omega,J,C⟩,by simp only;omega,eW [(16,.nm 16)]⟩
   ·have I:o=Ih d d.length 0 [s]:=by
     rw[←t];cases B:d.length-i with
     | zero=>rfl
     | succ m =>
      show _=if i<o.length then _ else o
      rw[At (by exact eV)]
    rw[←I]at h1;refine AH (ι:={j:Nat//j≤o.length}) (fun j=>⟨[(0,.p FW d),(5,.sr 16 T9 0 o.length),(9,.p CA ((o.take j.1).foldl Ed [])),(10,.p (.int .i64) (j.1:Int))],[(16,.arr 9 T9 o)]⟩) (fun j=>o.length-j.1) ⟨0,NO _⟩ (AC [(16,.nm 16)] rfl rfl ?_ ?_) (fun j=>?_)
    ·exact eN
    ·refine eM ?_;rfl
    ·obtain⟨j,R⟩:=j;have L:=fun h:j<o.length=>FA Ed o ByteArray.empty [] h;simp only;repeat'(first|exact trivial|refine eS rfl ?_|refine AB ?_|refine rX b ?_ ?_|refine rC ?_ ?_<;>intro a<;>try(cases a;done))
     ·refine⟨a,?_⟩;have:=Xd (o.take j);have P:=AAo j o;unfold KX at this;dsimp only[Ty.den]at *;omega
     ·exact eV
     ·have v:j<o.length:=by exact eV
      have e:=L v;refine⟨⟨j+1,by omega⟩,by simp only;omega,AC [(16,.nm 16)] rfl rfl ?_ ?_⟩
      ·exact eN
      ·simp only[e];exact eN
     ·have v:o.take j=o:=An (by exact eV);rw[v];exact fI b [.tmp 4] (by rw[h1];unfold KX;exact eR)
end
section
attribute [local go_sem] OV J5 ZD
def FN (s:ByteArray) (o:List ByteArray) (x:AI):List ByteArray:=if (AW x.2.1 s&&!AW o x.1)=true then o++[x.1] else o
def Cn (d:List AI):Nat→Nat→List ByteArray→List ByteArray
 | 0,_,o=>o
 | n+1,i,o=>if i<o.length then Cn d n (i+1) (d.foldl (FN (o.getD i ByteArray.empty)) o) else o
def Co (d:List AI) (s:ByteArray):List ByteArray:=if Am d s<0 then [] else KX (Cn d d.length 0 [s])
theorem Ue (s:ByteArray):∀(l:List AI) (k:Nat) (x:AI),x∈l→Ab x.1 s=true→0≤Cv s k l
 | y :: l,k,x,a,h=>by
  simp only[Cv];split
  ·omega
  ·rename_i b;rcases By.1 a with rfl|a
   ·exact absurd h b
   ·exact Ue s l (k+1) x a h
theorem Df {d:List AI} {x:AI} (a:x∈d):0≤Am d x.1:=Ue x.1 d 0 x a (Cw _)
theorem A4w {d:List AI} {o:List ByteArray} (h:ZL d o) (s:ByteArray) {x:AI} (b:x∈d):ZL d (FN s o x):=by
 unfold FN;split
 ·rename_i a;rw[As,bY]at a;have:=q9 h (Df b);unfold KW at this
  rwa [At (by rw[a.2];simp)]at this
 ·exact h
theorem Uf {d:List AI} (s:ByteArray):∀ {l:List AI} {o:List ByteArray},(∀x∈l,x∈d)→ZL d o→ZL d (l.foldl (FN s) o)∧o.length≤(l.foldl (FN s) o).length
 | [],o,_,h=>⟨h,Is _⟩
 | x :: l,o,a,h=>by
  obtain⟨b,c⟩:=Uf s (l:=l) (fun y e=>a y (by simp[e])) (A4w h s (a x (by simp)));refine⟨b,TO ?_ c⟩;unfold FN;split<;>simp
theorem RH (s:ByteArray) {i:Nat}:∀ {l:List AI} {o:List ByteArray},i<o.length→(l.foldl (FN s) o).getD i ByteArray.empty=o.getD i ByteArray.empty
 | [],_,_=>rfl
 | x :: l,o,h=>by
  have a:i<(FN s o x).length∧(FN s o x).getD i ByteArray.empty=o.getD i ByteArray.empty:=by
   unfold FN;split
   ·refine⟨by rw[Do];omega,?_⟩;simp only[AS];rw[AA5 h]
   ·exact⟨h,rfl⟩
  rw[O5,RH s a.1,a.2]
def ZM:Ad:={ ins:=[FW,T9],pre:=fun(d,_,_)=>List.length d≤256,out:=fun(d,s,_)=>[.p CA (Co d s)] }
attribute [local go_sem] ZM
theorem A1A:Ag Tryz.prog 130 ZM:=by
 refine fK [0,1,4,5,6,7,8,9,13,19,25,47,59] Tryz.func130 Tryz.ntmps130 (AF MW (AF G2 (AF RD AG))) ?_;rintro w0 O0 ⟨d,s,u⟩ b-y;have y:d.length≤256:=y;simp only[ZM,AM];repeat'(first|exact trivial|refine eS rfl ?_|refine AB ?_|refine rX b ?_ ?_|refine rC ?_ ?_<;>intro a<;>try(cases a;done))
 ·have h1:Co d s=[]:=by unfold Co;rw[BY a]
  exact fI b [.tmp 4] (by rw[h1];exact eR)
 ·have h1:Co d s=KX (Cn d d.length 0 [s]):=by unfold Co;rw[At (ABc.2 a)]
  have F:ZL d [s]:=⟨fun x v=>by
   have:x=s:=by simpa using v
   rw[this];exact a,by simp⟩
  refine AH (ι:={x:Nat×List ByteArray//x.1≤x.2.length∧ZL d x.2∧Cn d (d.length-x.1) x.1 x.2=Cn d d.length 0 [s]}) (fun x=>⟨[(0,.p FW d),(5,.sr 15 T9 0 x.1.2.length),(6,.p (.int .i64) (x.1.1:Int))],[(15,.arr 9 T9 x.1.2)]⟩) (fun x=>d.length-x.1.1) ⟨(0,[s]),by simp,F,rfl⟩ (eW [(15,.nm 15)]) (fun x=>?_)
  ·obtain⟨⟨i,o⟩,hi,q,r⟩:=x;simp only at hi q r;have P:=q.len;simp only;repeat'(first|exact trivial|refine eS rfl ?_|refine AB ?_|refine rX b ?_ ?_|refine rC ?_ ?_<;>intro a<;>try(cases a;done))
   ·have z:i<o.length:=by exact eV
    have B:Cn d (d.length-(i+1)) (i+1) (d.foldl (FN (o.getD i ByteArray.empty)) o)=Cn d d.length 0 [s]:=by
     rw[←r];obtain⟨m,A⟩:∃m,d.length-i=m+1:=⟨d.length-i-1,by omega⟩;have G:d.length-(i+1)=m:=by omega
     rw[A,G];show _=if i<o.length then Cn d m (i+1) (d.foldl (FN (o.getD i ByteArray.empty)) o) else o
     rw[BY z]
    refine AH (ι:={k:Nat//k≤d.length}) (fun k=>⟨[(0,.p FW d),(5,.sr 15 T9 0 ((d.take k.1).foldl (FN (o.getD i ByteArray.empty)) o).length),(6,.p (.int .i64) (i:Int)),(7,.p (.int .i64) (k.1:Int))],[(15,.arr 9 T9 ((d.take k.1).foldl (FN (o.getD i ByteArray.empty)) o))]⟩) (fun k=>d.length-k.1) ⟨0,NO _⟩ (AC [(15,.nm 15)] rfl rfl ?_ ?_) (fun k=>?_)
    ·refine eM ?_;rfl
    ·refine eM ?_;rfl
    ·obtain⟨k,hk⟩:=k;have g:=Uf (o.getD i ByteArray.empty) (l:=d.take k) (o:=o) (fun x v=>AAu v) q;have N:=g.1.len;have E:=fun h:k<d.length=>FA (FN (o.getD i ByteArray.empty)) d d0 o h;have D:((d.take k).foldl (FN (o.getD i ByteArray.empty)) o).getD i ByteArray.empty=o.getD i ByteArray.empty:=RH _ z;simp only;generalize C:(d.take k).foldl (FN (o.getD i ByteArray.empty)) o=f at *;repeat'(first|exact trivial|refine eS rfl ?_|refine AB ?_|refine rX b ?_ ?_|refine rC ?_ ?_<;>intro a<;>try(cases a;done))
     ·have M:=g.2;refine⟨a,?_,fun _=>a⟩;dsimp only[Ty.den]at *;omega
     ·refine⟨by assumption,?_⟩;simp only[AO];dsimp only[Ty.den]at *;omega
     ·exact eV
     ·have c:k<d.length:=by exact eV
      have e:=E c;rw[D]at a;have n:FN (o.getD i ByteArray.empty) f (d.getD k d0)=f++[(d.getD k d0).1]:=by
       unfold FN;rw[BY (by rw[As,bY];exact a)]
      rw[n]at e;refine⟨⟨k+1,by omega⟩,by simp only;omega,AC [(15,.nm 15)] rfl rfl ?_ ?_⟩
      ·simp only[e];exact eN
      ·simp only[e];exact eN
     ·exact eV
     ·have c:k<d.length:=by exact eV
      have e:=E c;rw[D]at a;have n:FN (o.getD i ByteArray.empty) f (d.getD k d0)=f:=by
       unfold FN;rw[At];rw[As,bY];rintro⟨h1,w⟩;rw[a h1]at w;cases w
      rw[n]at e;refine⟨⟨k+1,by omega⟩,by simp only;omega,AC [(15,.nm 15)] rfl rfl ?_ ?_⟩
      ·simp only[e];exact eN
      ·simp only[e];exact eN
     ·exact eV
     ·have c:d.take k=d:=An (by exact eV);rw[c]at C;rw[C]at B;have I:=g.1;have O:=g.2;exact⟨⟨(i+1,f),by simp only;omega,I,B⟩,by simp only;omega,eW [(15,.nm 15)]⟩
   ·have H:o=Cn d d.length 0 [s]:=by
     rw[←r];cases A:d.length-i with
     | zero=>rfl
     | succ m =>
      show _=if i<o.length then _ else o
      rw[At (by exact eV)]
    rw[←H]at h1;refine AH (ι:={j:Nat//j≤o.length}) (fun j=>⟨[(0,.p FW d),(5,.sr 15 T9 0 o.length),(8,.p CA ((o.take j.1).foldl Ed [])),(9,.p (.int .i64) (j.1:Int))],[(15,.arr 9 T9 o)]⟩) (fun j=>o.length-j.1) ⟨0,NO _⟩ (AC [(15,.nm 15)] rfl rfl ?_ ?_) (fun j=>?_)
    ·exact eN
    ·refine eM ?_;rfl
    ·obtain⟨j,L⟩:=j;have J:=fun h:j<o.length=>FA Ed o ByteArray.empty [] h;simp only;repeat'(first|exact trivial|refine eS rfl ?_|refine AB ?_|refine rX b ?_ ?_|refine rC ?_ ?_<;>intro a<;>try(cases a;done))
     ·refine⟨a,?_⟩;have:=Xd (o.take j);have K:=AAo j o;unfold KX at this;dsimp only[Ty.den]at *;omega
     ·exact eV
     ·have t:j<o.length:=by exact eV
      have e:=J t;refine⟨⟨j+1,by omega⟩,by simp only;omega,AC [(15,.nm 15)] rfl rfl ?_ ?_⟩
      ·exact eN
      ·simp only[e];exact eN
     ·have t:o.take j=o:=An (by exact eV);rw[t];exact fI b [.tmp 4] (by rw[h1];unfold KX;exact eR)
end
section
attribute [local go_sem] OV ZD mY J5
def FO (d:List AI) (o:List ByteArray) (x:ByteArray):List ByteArray:=if 0≤Am d x then Ed o x else o
def BZ (d:List AI) (l:List ByteArray):List ByteArray:=l.foldl (FO d) []
theorem J7 (d:List AI) (l:List ByteArray):(BZ d l).length≤l.length:=by
 have key:∀(l o:List ByteArray),(l.foldl (FO d) o).length≤o.length+l.length:=by
  intro l;induction l with
  | nil=>intro o;simp
  | cons x l a =>
   intro o;have h1:=a (FO d o x);have b:(FO d o x).length≤o.length+1:=by
    unfold FO;split
    ·exact MZ o x
    ·omega
   simp only[O5,OF];omega
 have:=key l [];simpa[BZ] using this
def RI:Ad:={ ins:=[FW,CA],pre:=fun(_,l,_)=>List.length l≤100000,out:=fun(d,l,_)=>[.p CA (BZ d l)] }
attribute [local go_sem] RI
theorem gU:Ag Tryz.prog 154 RI:=by
 refine fK [0,1,4,5,6,10,19] Tryz.func154 Tryz.ntmps154 (AF MW (AF RD AG)) ?_;rintro w0 O0 ⟨d,l,u⟩ c-f;have f:l.length≤100000:=f;simp only[RI,AM];repeat'(first|exact trivial|refine eS rfl ?_|refine AB ?_|refine rX c ?_ ?_|refine rC ?_ ?_<;>intro a<;>try(cases a;done))
 refine AH (ι:={k:Nat//k≤l.length}) (fun k=>⟨[(0,.p FW d),(1,.p CA l),(5,.p CA (BZ d (l.take k.1))),(6,.p (.int .i64) (k.1:Int))],[]⟩) (fun k=>l.length-k.1) ⟨0,NO _⟩ (AC [] rfl rfl ?_ ?_) (fun k=>?_)
 ·exact eN
 ·refine eM ?_;rfl
 ·obtain⟨k,hk⟩:=k;have hn:=J7 d (l.take k);have g:=AAo k l;have hs:=fun h:k<l.length=>FA (FO d) l ByteArray.empty [] h;simp only;repeat'(first|exact trivial|refine eS rfl ?_|refine AB ?_|refine rX c ?_ ?_|refine rC ?_ ?_<;>intro a<;>try(cases a;done))
  ·exact a
  ·exact⟨by assumption,by omega⟩
  ·exact eV
  ·have b:k<l.length:=by exact eV
   have e:BZ d (l.take (k+1))=FO d (BZ d (l.take k)) (l.getD k ByteArray.empty):=hs b;unfold FO at e;rw[BY a]at e;refine⟨⟨k+1,by omega⟩,by simp only;omega,AC [] rfl rfl ?_ ?_⟩
   ·exact eN
   ·simp only[e];exact eN
  ·exact eV
  ·have b:k<l.length:=by exact eV
   have e:BZ d (l.take (k+1))=FO d (BZ d (l.take k)) (l.getD k ByteArray.empty):=hs b;unfold FO at e;rw[At (Int.not_le.2 a)]at e;refine⟨⟨k+1,by omega⟩,by simp only;omega,AC [] rfl rfl ?_ ?_⟩
   ·exact eN
   ·simp only[e];exact eN
  ·have b:l.take k=l:=An (by exact eV);rw[b];exact fI c [.tmp 4]
def rA (d:List AI) (all:List ByteArray) (i:Nat) (k:Nat):Bool:=(k:Int)==(i:Int)||!AW (LP d (all.getD i ByteArray.empty)) (all.getD k ByteArray.empty)
def Pv (d:List AI) (all:List ByteArray) (i n:Nat):Bool:=(List.range n).all (rA d all i)
def Pw (d:List AI) (all:List ByteArray) (n:Nat):List ByteArray:=((List.range n).filter fun i=>Pv d all i all.length).map fun i=>all.getD i ByteArray.empty
def Ax (d:List AI) (l:List ByteArray):List ByteArray:=Pw d (BZ d l) (BZ d l).length
theorem vF (d:List AI) (all:List ByteArray) (n:Nat):Pw d all (n+1)=Pw d all n++if Pv d all n all.length=true then [all.getD n ByteArray.empty] else []:=by
 unfold Pw;rw[AAd,ABr,AAl]
 congr 1
 rw[AAn,AC3];split<;>rfl
theorem gV (d:List AI) (all:List ByteArray) (n:Nat):(Pw d all n).length≤n:=by
 unfold Pw;rw[To];exact TO (AAK _ _) (by simp)
theorem mZ (d:List AI) (all:List ByteArray) (i n:Nat):Pv d all i (n+1)=(Pv d all i n&&rA d all i n):=by
 unfold Pv;rw[AAd,ABK];simp
def Mb:Ad:={ ins:=[FW,CA],pre:=fun(d,l,_)=>Pt d∧List.length d≤256∧List.length l≤100000,out:=fun(d,l,_)=>[.p CA (Ax d l)] }
attribute [local go_sem] Mb
theorem Ug:Ag Tryz.prog 136 Mb:=by
 refine fK [0,1,4,5,6,7,8,9,10,17,29,47] Tryz.func136 Tryz.ntmps136 (AF gU (AF A1z (AF G2 AG))) ?_;rintro w0 O0 ⟨d,l,u⟩ c-⟨n,f,g⟩;have f:d.length≤256:=f;have g:l.length≤100000:=g;have m:Ax d l=Pw d (BZ d l) (BZ d l).length:=rfl;have o:=J7 d l;simp only[Mb,AM];repeat'(first|exact trivial|refine eS rfl ?_|refine AB ?_|refine rX c ?_ ?_|refine rC ?_ ?_<;>intro a<;>try(cases a;done))
 ·exact g
 ·rw[m];generalize BZ d l=all at *;refine AH (ι:={i:Nat//i≤all.length}) (fun i=>⟨[(0,.p FW d),(5,.sr 54 T9 0 (Pw d all i.1).length),(6,.p CA all),(7,.p (.int .i64) (i.1:Int))],[(54,.arr 9 T9 (Pw d all i.1))]⟩) (fun i=>all.length-i.1) ⟨0,NO _⟩ (AC [(54,.nil)] rfl rfl ?_ ?_) (fun i=>?_)
  ·refine eM ?_;rfl
  ·refine eM ?_;rfl
  ·obtain⟨i,hi⟩:=i;have q:=gV d all i;have b:=vF d all i;simp only;repeat'(first|exact trivial|refine eS rfl ?_|refine AB ?_|refine rX c ?_ ?_|refine rC ?_ ?_<;>intro a<;>try(cases a;done))
   ·exact⟨a,n,f⟩
   ·have h:i<all.length:=by exact eV
    refine AH (ι:={k:Nat//k≤all.length}) (fun k=>⟨[(0,.p FW d),(5,.sr 54 T9 0 (Pw d all i).length),(6,.p CA all),(7,.p (.int .i64) (i:Int)),(8,.p CA (LP d (all.getD i ByteArray.empty))),(9,.p .bool (Pv d all i k.1)),(10,.p (.int .i64) (k.1:Int))],[(54,.arr 9 T9 (Pw d all i))]⟩) (fun k=>all.length-k.1) ⟨0,NO _⟩ (AC [(54,.nm 54)] rfl rfl ?_ ?_) (fun k=>?_)
    ·exact eN
    ·refine eM ?_;rfl
    ·obtain⟨k,hk⟩:=k;have j:=mZ d all i k;simp only;repeat'(first|exact trivial|refine eS rfl ?_|refine AB ?_|refine rX c ?_ ?_|refine rC ?_ ?_<;>intro a<;>try(cases a;done))
     ·exact fun _=>a
     ·exact eV
     ·have e:k<all.length:=by exact eV
      refine⟨⟨k+1,by omega⟩,by simp only;omega,AC [(54,.nm 54)] rfl rfl ?_ ?_⟩
      ·exact eN
      ·simp only[j];unfold rA;exact eN
     ·refine⟨by assumption,?_⟩;simp only[AO];omega
     ·exact eV
     ·have e:k=all.length:=by exact eV
      subst e;rw[a,BY rfl]at b;refine⟨⟨i+1,by omega⟩,by simp only;omega,AC [(54,.nm 54)] rfl rfl ?_ ?_⟩
      ·simp only[b];exact eN
      ·simp only[b];exact eN
     ·exact eV
     ·have e:k=all.length:=by exact eV
      subst e;rw[a,At (by simp),AAh]at b;refine⟨⟨i+1,by omega⟩,by simp only;omega,AC [(54,.nm 54)] rfl rfl ?_ ?_⟩
      ·simp only[b];exact eN
      ·simp only[b];exact eN
   ·have h:i=all.length:=by exact eV
    subst h;refine Gg [54] ?_;exact fI c [.tmp 4]
end
section
attribute [local go_sem] LM
def vG (b:List Int) (x:Int):List Int:=b.set (x.tdiv 64).toNat (CB .or .u64 (b.getD (x.tdiv 64).toNat 0) (Sh .u64 1 (x.tmod 64)))
def x6 (l:List Int):List Int:=l.foldl vG (List.replicate 64 0)
def okB (x:Int):Bool:=!(decide (x<0)||decide (4095<x))
def ofF (l:List Int):List Int×Int:=if l.all okB=true then (BJ (x6 l),0) else ([],2)
theorem Px (l:List Int):(x6 l).length=64:=by
 have key:∀(l b:List Int),(l.foldl vG b).length=b.length:=by
  intro l;induction l with
  | nil=>intro b;rfl
  | cons x l a =>
   intro b;rw[O5,a];simp[vG]
 unfold x6;rw[key];simp
def ofS:Ad:={ ins:=[GM],pre:=fun _=>True,out:=fun(l,_)=>[.p EM (ofF l).1,.p WV (ofF l).2] }
theorem A9s:Ag Tryz.prog 132 ofS:=by
 refine fK [0,2,3,4,5,10,24] Tryz.func132 Tryz.ntmps132 (AF NG AG) ?_;rintro w0 O0 ⟨l,u⟩ c ⟨⟨g,-⟩,-⟩ -;simp only[AO]at g;simp only[ofS,AM];repeat'(first|exact trivial|refine eS rfl ?_|refine AB ?_|refine rX c ?_ ?_|refine rC ?_ ?_<;>intro a<;>try(cases a;done))
 ·simp only[AO];omega
 ·refine AH (ι:={k:Nat//k≤l.length∧(l.take k).all okB=true}) (fun k=>⟨[(0,.p GM l),(4,.sr 6 Pq 0 (x6 (l.take k.1)).length),(5,.p (.int .i64) (k.1:Int))],[(6,.arr 155 Pq (x6 (l.take k.1)))]⟩) (fun k=>l.length-k.1) ⟨0,NO _,rfl⟩ (AC [(6,.nm 6)] rfl rfl ?_ ?_) (fun k=>?_)
  ·refine eM ?_;rfl
  ·refine eM ?_;rfl
  ·obtain⟨k,hk,hf⟩:=k;have i:=Px (l.take k);have hs:∀h:k<l.length,x6 (l.take (k+1))=vG (x6 (l.take k)) (l.getD k 0):=fun h=>FA vG l 0 _ h;simp only;repeat'(first|exact trivial|refine eS rfl ?_|refine AB ?_|refine rX c ?_ ?_|refine rC ?_ ?_<;>intro a<;>try(cases a;done))
   ·exact⟨a,fun _=>a⟩
   ·have b:k<l.length:=by exact eV
    have h1:ofF l=([],2):=by
     unfold ofF;rw[At];intro h;have:=IN.1 h _ (AD l 0 b);unfold okB at this;rw[bY,AAC,On,On]at this;rcases a with h|h
     ·exact this.1 h
     ·exact this.2 h
    exact fI c [.tmp 2,.tmp 3] (by rw[h1];exact eR)
   ·obtain⟨h0,h1⟩:=a;have d:Int.tdiv (l.getD k 0) 64=l.getD k 0 / 64:=AAG h0;have f:Int.tmod (l.getD k 0) 64=l.getD k 0 % 64:=ABy h0;rw[d,f,i];refine⟨?_,⟨by decide,?_,?_⟩,?_,⟨by decide,?_,?_⟩,⟨?_,?_⟩,?_,⟨by decide,?_,?_⟩,⟨?_,?_⟩,?_,?_,?_⟩<;>exact eV
   ·exact eV
   ·have b:k<l.length:=by exact eV
    have e:=hs b;refine⟨⟨k+1,by omega,?_⟩,by simp only;omega,AC [(6,.nm 6)] rfl rfl ?_ ?_⟩
    ·rw[Gi l 0 _ b,hf,AC6];unfold okB;rw[bY,AAC,On,On];exact⟨ABc.2 a.1,ABc.2 a.2⟩
    ·simp only[e];refine eM ?_;rfl
    ·simp only[e];refine eM ?_;rw[←e,Px,Px]
   ·have b:l.take k=l:=An (by exact eV);rw[b]at hf ⊢;have h1:ofF l=(BJ (x6 l),0):=by unfold ofF;rw[BY hf]
    have j:=Px l;refine Gg [6] ?_;repeat'(first|exact trivial|refine eS rfl ?_|refine AB ?_|refine rX c ?_ ?_|refine rC ?_ ?_<;>intro a<;>try(cases a;done))
    ·rw[j];decide
    ·exact fI c [.tmp 2,.tmp 3] (by rw[h1];exact eR)
end
section
attribute [local go_sem] Ud Pr
def m5 (l:List (List Int)) (b:List Int):Bool:=l.any fun x=>GS x b
def A6D:Ad:={ ins:=[Sn,EM],pre:=fun _=>True,out:=fun(l,b,_)=>[.p .bool (m5 l b)],lend:=true }
theorem A6E:Ag Tryz.prog 133 A6D:=by
 refine fK [0,1,4,5,9,17] Tryz.func133 Tryz.ntmps133 (AF ZF AG) ?_;rintro w0 O0 ⟨l,n,u⟩ b ⟨⟨e,-⟩,-⟩ -;simp only[AO]at e;simp only[A6D,AM];repeat'(first|exact trivial|refine eS rfl ?_|refine AB ?_|refine rX b ?_ ?_|refine rC ?_ ?_<;>intro a<;>try(cases a;done))
 refine AH (ι:={k:Nat//k≤l.length∧(l.take k).any (fun x=>GS x n)=false}) (fun k=>⟨[(0,.p Sn l),(1,.p EM n),(5,.p (.int .i64) (k.1:Int))],[]⟩) (fun k=>l.length-k.1) ⟨0,by simp⟩ (eW []) (fun k=>?_)
 ·obtain⟨k,hk,c⟩:=k;repeat'(first|exact trivial|refine eS rfl ?_|refine AB ?_|refine rX b ?_ ?_|refine rC ?_ ?_<;>intro a<;>try(cases a;done))
  ·exact eV
  ·have d:k<l.length:=by exact eV
   have h1:m5 l n=true:=JZ l [] _ d a;exact fI b [.tmp 4] (by rw[h1];exact eR)
  ·exact eV
  ·have d:k<l.length:=by exact eV
   refine⟨⟨k+1,by exact eV,?_⟩,by simp only;exact eV,AC [] rfl rfl ?_ ?_⟩
   ·rw[NF l [] _ d,c];exact a
   ·exact eN
   ·exact eN
  ·have hk:l.take k=l:=An (by exact eV);rw[hk]at c;have h1:m5 l n=false:=c;exact fI b [.tmp 4] (by rw[h1];exact eR)
abbrev AP:=ByteArray×List Int
abbrev c0:AP:=(ByteArray.empty,[])
def Lt (l:List AP) (i j:Int):Bool:=FX (l.getD j.toNat c0).2 (l.getD i.toNat c0).2
def rE:Ad:={ ins:=[KV,T3,T3],pre:=fun(l,i,j,_)=>((0:Int)≤i∧i<(List.length l:Int))∧((0:Int)≤j∧j<(List.length l:Int))∧(∀x∈(l:List AP),x.2.length≤100000),out:=fun(l,i,j,_)=>[.p .bool (Lt l i j)],lend:=true }
theorem rF:Ag Tryz.prog 103 rE:=by
 refine fK [0,1,2,6] Tryz.func103 Tryz.ntmps103 (AF Xb AG) ?_;rintro w0 O0 ⟨l,i,j,u⟩ a-⟨hi,c,d⟩;simp only[rE,AM];repeat'(first|exact trivial|refine eS rfl ?_|refine AB ?_|refine rX a ?_ ?_|refine rC ?_ ?_<;>intro b<;>try(cases b;done))
 ·exact⟨c,hi,d _ (AD (l:List AP) c0 (by exact eV))⟩
 ·exact fI a [.tmp 6] (by unfold Lt;exact eR)
end
section
attribute [local go_sem] Ud
def Mc (s:ByteArray):Nat→List AP→Int
 | _,[]=>-1
 | k,x :: l=>if Ab x.1 s=true then (k:Int) else Mc s (k+1) l
def BK (l:List AP) (s:ByteArray):Int:=Mc s 0 l
theorem Xf (s:ByteArray) (l:List AP) {k:Nat} (h:k<l.length):Mc s k (l.drop k)=if Ab (l.getD k c0).1 s=true then (k:Int) else Mc s (k+1) (l.drop (k+1)):=by
 rw[ON h];have e:l.getD k c0=l[k]:=by simp[AS,h]
 rw[e];rfl
def TB:Ad:={ ins:=[KV,T9],pre:=fun _=>True,out:=fun(l,s,_)=>[.p T3 (BK l s)],lend:=true }
theorem Xg:Ag Tryz.prog 105 TB:=by
 refine fK [0,1,4,5,9,18] Tryz.func105 Tryz.ntmps105 AG ?_;rintro w0 O0 ⟨l,s,u⟩ c ⟨⟨d,-⟩,-⟩ -;simp only[AO]at d;simp only[TB,AM];repeat'(first|exact trivial|refine eS rfl ?_|refine AB ?_|refine rX c ?_ ?_|refine rC ?_ ?_<;>intro a<;>try(cases a;done))
 refine AH (ι:={k:Nat//k≤l.length∧Mc s k (l.drop k)=BK l s}) (fun k=>⟨[(0,.p KV l),(1,.p T9 s),(5,.p (.int .i64) (k.1:Int))],[]⟩) (fun k=>l.length-k.1) ⟨0,NO _,rfl⟩ (eW []) (fun k=>?_)
 ·obtain⟨k,hk,hf⟩:=k;simp only;repeat'(first|exact trivial|refine eS rfl ?_|refine AB ?_|refine rX c ?_ ?_|refine rC ?_ ?_<;>intro a<;>try(cases a;done))
  ·exact a
  ·have b:k<l.length:=by exact eV
   rw[Xf s l b,BY a]at hf;exact fI c [.tmp 4] (by rw[←hf];exact eR)
  ·exact eV
  ·have b:k<l.length:=by exact eV
   rw[Xf s l b,At (by rw[a];simp)]at hf;exact⟨⟨k+1,by omega,hf⟩,by simp only;omega,eW []⟩
  ·have b:l.drop k=[]:=IF (by exact eV);rw[b]at hf;exact fI c [.tmp 4] (by rw[←hf];first|exact eR|refine bW ?_;rfl)
end
section
attribute [local go_sem] Ud LM
def Py (s:List Int):Nat→List AP→Int
 | _,[]=>-1
 | k,x :: l=>if GS x.2 s=true then (k:Int) else Py s (k+1) l
def HT (l:List AP) (b:List Int):Int:=Py (BJ b) 0 l
theorem Uh (s:List Int) (l:List AP) {k:Nat} (h:k<l.length):Py s k (l.drop k)=if GS (l.getD k c0).2 s=true then (k:Int) else Py s (k+1) (l.drop (k+1)):=by
 rw[ON h];have e:l.getD k c0=l[k]:=by simp[AS,h]
 rw[e];rfl
def m6:Ad:={ ins:=[KV,EM],pre:=fun(_,b,_)=>List.length b≤100000,out:=fun(l,b,_)=>[.p T3 (HT l b)],lend:=true }
theorem A1B:Ag Tryz.prog 96 m6:=by
 refine fK [0,1,4,5,6,12,21] Tryz.func96 Tryz.ntmps96 (AF NG (AF ZF AG)) ?_;rintro w0 O0 ⟨l,b,u⟩ d ⟨⟨g,-⟩,-⟩ e;simp only[AO]at g;simp only[m6,AM];repeat'(first|exact trivial|refine eS rfl ?_|refine AB ?_|refine rX d ?_ ?_|refine rC ?_ ?_<;>intro a<;>try(cases a;done))
 ·exact e
 ·have f:HT l b=Py (BJ b) 0 l:=rfl;rw[f];generalize BJ b=s at *;refine AH (ι:={k:Nat//k≤l.length∧Py s k (l.drop k)=Py s 0 l}) (fun k=>⟨[(0,.p KV l),(5,.p EM s),(6,.p (.int .i64) (k.1:Int))],[]⟩) (fun k=>l.length-k.1) ⟨0,NO _,rfl⟩ (eW []) (fun k=>?_)
  ·obtain⟨k,hk,hf⟩:=k;simp only;repeat'(first|exact trivial|refine eS rfl ?_|refine AB ?_|refine rX d ?_ ?_|refine rC ?_ ?_<;>intro a<;>try(cases a;done))
   ·exact a
   ·have c:k<l.length:=by exact eV
    rw[Uh s l c,BY a]at hf;exact fI d [.tmp 4] (by rw[←hf];exact eR)
   ·exact eV
   ·have c:k<l.length:=by exact eV
    rw[Uh s l c,At (by rw[a];simp)]at hf;exact⟨⟨k+1,by omega,hf⟩,by simp only;omega,eW []⟩
   ·have c:l.drop k=[]:=IF (by exact eV);rw[c]at hf;exact fI d [.tmp 4] (by rw[←hf];first|exact eR|refine bW ?_;rfl)
end
section
attribute [local go_sem] Ud
def gW (s:ByteArray):List (ByteArray×ByteArray)→ByteArray×Bool
 | []=>(ByteArray.empty,false)
 | x :: l=>if Ab x.1 s=true then (x.2,true) else gW s l
def DM (x:AI) (s:ByteArray):ByteArray×Bool:=gW s x.2.2
theorem Xh (s:ByteArray) (l:List (ByteArray×ByteArray)) {k:Nat} (h:k<l.length):gW s (l.drop k)=if Ab (l.getD k (ByteArray.empty,ByteArray.empty)).1 s=true then ((l.getD k (ByteArray.empty,ByteArray.empty)).2,true) else gW s (l.drop (k+1)):=by
 rw[ON h];have e:l.getD k (ByteArray.empty,ByteArray.empty)=l[k]:=by simp[AS,h]
 rw[e];rfl
def ZN:Ad:={ ins:=[u3,T9],pre:=fun _=>True,out:=fun(x,s,_)=>[.p T9 (DM x s).1,.p .bool (DM x s).2],lend:=true }
theorem gX:Ag Tryz.prog 123 ZN:=by
 refine fK [0,1,2,4,5,6,11,21] Tryz.func123 Tryz.ntmps123 AG ?_;rintro w0 O0 ⟨⟨nm,sup,a⟩,s,u⟩ d ⟨⟨-,-,f,-⟩,-⟩ -;simp only[AO]at f;simp only[ZN,AM];repeat'(first|exact trivial|refine eS rfl ?_|refine AB ?_|refine rX d ?_ ?_|refine rC ?_ ?_<;>intro b<;>try(cases b;done))
 have e:({ data:=#[] }:ByteArray).size≤AO:=by decide
 rw[BY e];refine AH (ι:={k:Nat//k≤a.length∧gW s (a.drop k)=DM (nm,sup,a) s}) (fun k=>⟨[(1,.p T9 s),(2,.bp 2 [] 0),(6,.p (.int .i64) (k.1:Int))],[(2,.box 111 true [.p T9 nm,.p CA sup,.p b5 a])]⟩) (fun k=>a.length-k.1) ⟨0,NO _,rfl⟩ (eW [(2,.nm 2)]) (fun k=>?_)
 ·obtain⟨k,hk,hf⟩:=k;simp only;repeat'(first|exact trivial|refine eS rfl ?_|refine AB ?_|refine rX d ?_ ?_|refine rC ?_ ?_<;>intro b<;>try(cases b;done))
  ·exact b
  ·assumption
  ·have c:k<a.length:=by exact eV
   rw[Xh s a c,BY b]at hf;exact fI d [.tmp 4,.tmp 5] (by rw[←hf];exact eR)
  ·exact eV
  ·have c:k<a.length:=by exact eV
   rw[Xh s a c,At (by rw[b];simp)]at hf;exact⟨⟨k+1,by omega,hf⟩,by simp only;omega,eW [(2,.nm 2)]⟩
  ·have c:a.drop k=[]:=IF (by exact eV);rw[c]at hf;rw[BY e];exact fI d [.tmp 4,.tmp 5] (by rw[←hf];first|exact eR|refine bW ?_;exact⟨rfl,rfl⟩)
end
section
attribute [local go_sem] mX
def GC (a b:AP):Bool:=decide (((Ic b.2).length:Int)<((Ic a.2).length:Int))||((Ic a.2).length:Int)==((Ic b.2).length:Int)&&Hd a.1 b.1
def ZO:Ad:={ ins:=[ZC,ZC],pre:=fun(a,b,_)=>List.length (a:AP).2≤100000∧List.length (b:AP).2≤100000,out:=fun(a,b,_)=>[.p .bool (GC a b)],lend:=true }
theorem vH:Ag Tryz.prog 102 ZO:=by
 refine fK [0,1,2,3,4,5,6] Tryz.func102 Tryz.ntmps102 (AF A1v AG) ?_;rintro w0 O0 ⟨⟨d,ac⟩,⟨f,e⟩,u⟩ a-⟨ha,c⟩;simp only[ZO,AM];repeat'(first|exact trivial|refine eS rfl ?_|refine AB ?_|refine rX a ?_ ?_|refine rC ?_ ?_<;>intro b<;>try(cases b;done))
 ·exact ha
 ·exact c
 ·exact fI a [.tmp 4] (by unfold GC;exact eR)
end
section
attribute [local go_sem] ZM J5 ofS
def OY (low all:List ByteArray) (n:Nat):List Int:=((List.range n).filter fun(i:Nat)=>AW low (all.getD i ByteArray.empty)).map fun(i:Nat)=>(i:Int)
theorem vI (low all:List ByteArray) (n:Nat):OY low all (n+1)=OY low all n++if AW low (all.getD n ByteArray.empty)=true then [(n:Int)] else []:=by
 unfold OY;rw[AAd,ABr,AAl]
 congr 1
 rw[AAn,AC3];split<;>rfl
theorem A1C (low all:List ByteArray) (n:Nat):(OY low all n).length≤n:=by
 unfold OY;rw[To];exact TO (AAK _ _) (by simp)
def E0 (d:List AI) (all:List ByteArray) (s:ByteArray):List Int:=(ofF (OY (Co d s) all all.length)).1
def A1D:Ad:={ ins:=[FW,CA,T9],pre:=fun(d,l,_,_)=>List.length d≤256∧List.length l≤100000,out:=fun(d,l,s,_)=>[.p EM (E0 d l s)] }
theorem A4y:Ag Tryz.prog 99 A1D:=by
 refine fK [0,1,2,6,7,8,9,10,18,26] Tryz.func99 Tryz.ntmps99 (AF A1A (AF G2 (AF A9s AG))) ?_;rintro w0 O0 ⟨d,l,s,u⟩ b-⟨g,e⟩;have e:l.length≤100000:=e;have f:E0 d l s=(ofF (OY (Co d s) l l.length)).1:=rfl;simp only[A1D,AM];repeat'(first|exact trivial|refine eS rfl ?_|refine AB ?_|refine rX b ?_ ?_|refine rC ?_ ?_<;>intro a<;>try(cases a;done))
 ·exact g
 ·rw[f];generalize Co d s=low at *;refine AH (ι:={n:Nat//n≤l.length}) (fun n=>⟨[(0,.p FW d),(1,.p CA l),(2,.p T9 s),(7,.p CA low),(8,.sr 30 T3 0 (OY low l n.1).length),(9,.p (.int .i64) (n.1:Int))],[(30,.arr 3 T3 (OY low l n.1))]⟩) (fun n=>l.length-n.1) ⟨0,NO _⟩ (AC [(30,.nil)] rfl rfl ?_ ?_) (fun n=>?_)
  ·refine eM ?_;rfl
  ·refine eM ?_;rfl
  ·obtain⟨n,hn⟩:=n;have h:=A1C low l n;have hs:=vI low l n;simp only;repeat'(first|exact trivial|refine eS rfl ?_|refine AB ?_|refine rX b ?_ ?_|refine rC ?_ ?_<;>intro a<;>try(cases a;done))
   ·exact a
   ·rw[a,BY rfl]at hs;simp only[AO];dsimp only[Ty.den]at *;omega
   ·exact eV
   ·have c:n<l.length:=by exact eV
    rw[a,BY rfl]at hs;refine⟨⟨n+1,by omega⟩,by simp only;omega,AC [(30,.nm 30)] rfl rfl ?_ ?_⟩
    ·simp only[hs];exact eN
    ·simp only[hs];exact eN
   ·exact eV
   ·have c:n<l.length:=by exact eV
    rw[a,At (by simp),AAh]at hs;refine⟨⟨n+1,by omega⟩,by simp only;omega,AC [(30,.nm 30)] rfl rfl ?_ ?_⟩
    ·simp only[hs];exact eN
    ·simp only[hs];exact eN
   ·have c:n=l.length:=by exact eV
    subst c;refine Gg [30] ?_;repeat'(first|exact trivial|refine eS rfl ?_|refine AB ?_|refine rX b ?_ ?_|refine rC ?_ ?_<;>intro a<;>try(cases a;done))
    exact fI b [.tmp 6]
end
section
attribute [local go_sem] ZD
def Pz (o:List ByteArray) (f:ByteArray×ByteArray):List ByteArray:=Ed o f.1
def RJ (o:List ByteArray) (x:AI):List ByteArray:=x.2.2.foldl Pz o
def BL (d:List AI):List ByteArray:=d.foldl RJ []
theorem Xi (l:List (ByteArray×ByteArray)):∀o:List ByteArray,(l.foldl Pz o).length≤o.length+l.length:=by
 induction l with
 | nil=>intro o;simp
 | cons x l a =>
  intro o;have h1:=a (Pz o x);have b:(Pz o x).length≤o.length+1:=MZ o x.1;simp only[O5,OF];omega
theorem m7 {d:List AI} (h:∀x∈d,x.2.2.length≤256):∀(l:List AI),(∀x∈l,x∈d)→∀o:List ByteArray,(l.foldl RJ o).length≤o.length+256*l.length:=by
 intro l;induction l with
 | nil=>intro _ o;simp
 | cons x l c =>
  intro a o;have h1:=c (fun y b=>a y (by simp[b])) (RJ o x);have e:=Xi x.2.2 o;have f:=h x (a x (by simp));have g:(RJ o x).length=(x.2.2.foldl Pz o).length:=rfl;simp only[O5,OF];omega
def Ui:Ad:={ ins:=[FW],pre:=fun(d,_)=>List.length d≤256∧(∀x∈(d:List AI),x.2.2.length≤256),out:=fun(d,_)=>[.p CA (BL d)] }
theorem Uj:Ag Tryz.prog 94 Ui:=by
 refine fK [0,2,3,4,5,9,19] Tryz.func94 Tryz.ntmps94 (AF RD AG) ?_;rintro w0 O0 ⟨d,u⟩ c-⟨f,m⟩;have f:d.length≤256:=f;simp only[Ui,AM];repeat'(first|exact trivial|refine eS rfl ?_|refine AB ?_|refine rX c ?_ ?_|refine rC ?_ ?_<;>intro a<;>try(cases a;done))
 refine AH (ι:={i:Nat//i≤d.length}) (fun i=>⟨[(0,.p FW d),(3,.p CA (BL (d.take i.1))),(4,.p (.int .i64) (i.1:Int))],[]⟩) (fun i=>d.length-i.1) ⟨0,NO _⟩ (AC [] rfl rfl ?_ ?_) (fun i=>?_)
 ·exact eN
 ·refine eM ?_;rfl
 ·obtain⟨i,hi⟩:=i;have l:=m7 m (d.take i) (fun x h=>AAu h) [];have t:=AAo i d;have hs:=fun h:i<d.length=>FA RJ d d0 [] h;have g:∀e,BL e=e.foldl RJ []:=fun _=>rfl;simp only;repeat'(first|exact trivial|refine eS rfl ?_|refine AB ?_|refine rX c ?_ ?_|refine rC ?_ ?_<;>intro a<;>try(cases a;done))
  ·have j:i<d.length:=by exact eV
   have v:=m _ (AD d d0 j);have hs:=hs j;rw[←g,←g]at hs;rw[←g]at l;generalize BL (d.take i)=o at *;refine AH (ι:={k:Nat//k≤(d.getD i d0).2.2.length}) (fun k=>⟨[(0,.p FW d),(3,.p CA (((d.getD i d0).2.2.take k.1).foldl Pz o)),(4,.p (.int .i64) (i:Int)),(5,.p (.int .i64) (k.1:Int))],[]⟩) (fun k=>(d.getD i d0).2.2.length-k.1) ⟨0,NO _⟩ (AC [] rfl rfl ?_ ?_) (fun k=>?_)
   ·exact eN
   ·refine eM ?_;rfl
   ·obtain⟨k,hk⟩:=k;have r:k≤(d.getD i d0).2.2.length:=hk;have q:=Xi ((d.getD i d0).2.2.take k) o;have s:=AAo k (d.getD i d0).2.2;have n:=fun h:k<(d.getD i d0).2.2.length=>FA Pz (d.getD i d0).2.2 (ByteArray.empty,ByteArray.empty) o h;simp only;repeat'(first|exact trivial|refine eS rfl ?_|refine AB ?_|refine rX c ?_ ?_|refine rC ?_ ?_<;>intro a<;>try(cases a;done))
    ·assumption
    ·refine⟨by assumption,a,?_⟩;simp only[AAW]at l;dsimp only[Ty.den]at *;omega
    ·have h1:(k:Int)<((d.getD i d0).2.2.length:Int):=a;exact eV
    ·have b:k<(d.getD i d0).2.2.length:=OR.1 a;have e:=n b;refine⟨⟨k+1,b⟩,by simp only;omega,AC [] rfl rfl ?_ ?_⟩
     ·exact eN
     ·simp only[e];unfold Pz;exact eN
    ·have:=f;exact eV
    ·have b:(d.getD i d0).2.2.take k=(d.getD i d0).2.2:=An (f8.1 a);have e:BL (d.take (i+1))=((d.getD i d0).2.2.take k).foldl Pz o:=by rw[b];exact hs
     refine⟨⟨i+1,j⟩,by simp only;omega,AC [] rfl rfl ?_ ?_⟩
     ·exact eN
     ·simp only[e];exact eN
  ·have b:d.take i=d:=An (by exact eV);rw[b];exact fI c [.tmp 2]
end
theorem Xj {d:List AI} {l:List ByteArray}:∀ {r:List ByteArray} {k:Nat},Sp d l k r=0→∀s∈r,0≤Am d s
 | [],_,_,s,hs=>by cases hs
 | x :: r,k,h,s,hs=>by
  simp only[Sp]at h;split at h
  ·cases h
  ·rename_i h1;split at h
   ·cases h
   ·rcases By.1 hs with rfl|hs
    ·omega
    ·exact Xj h s hs
theorem P0 {d:List AI}:∀ {l:List AI},LN d l=0→∀x∈l,∀s∈x.2.1,0≤Am d s
 | [],_,x,a=>by cases a
 | y :: l,h,x,a=>by
  simp only[LN]at h;split at h
  ·rename_i h1;exact absurd h h1
  ·rename_i h1;rcases By.1 a with rfl|a
   ·exact Xj (DO h1)
   ·exact P0 h x a
theorem A1E {d:List AI} (h:LO d=0):Pt d:=P0 h
theorem Aw {d:List AI} (h:A3 d=0):Pt d∧d.length≤256∧Ig d=1∧Cm d=0∧d.length≤(Bh d).length:=by
 unfold A3 at h;split at h
 ·rename_i h1;exact absurd h h1
 ·rename_i h1;split at h
  ·rename_i a;exact absurd h a
  ·rename_i a;split at h
   ·rename_i b;exact absurd h b
   ·rename_i b;split at h
    ·cases h
    ·rename_i c;split at h
     ·cases h
     ·rename_i e;exact⟨A1E (DO b),SK (DO h1),DO c,DO a,by omega⟩
section
attribute [local go_sem] A6D A1s
def Gj (l:List (List Int)) (i k:Nat):List (List Int) :=
 if (decide (0<((EO (l.getD i []) (l.getD k [])).length:Int))&&!m5 l (EO (l.getD i []) (l.getD k [])))=true then l++[EO (l.getD i []) (l.getD k [])] else l
def Gk (i:Nat):Nat→Nat→List (List Int)→List (List Int)
 | 0,_,l=>l
 | n+1,k,l=>if l.length≤256 then Gk i n (k+1) (Gj l i k) else l
def Ii:Nat→Nat→List (List Int)→List (List Int)
 | 0,_,l=>l
 | n+1,i,l=>if i<l.length∧l.length≤256 then Ii n (i+1) (Gk i i 0 l) else l
def Au (c:List (List Int)):List (List Int):=Ii 257 0 c
theorem gY (a b:List Int):(EO a b).length≤a.length:=by
 unfold EO BJ;have:=Ez .and a b a.length;rw[OS];omega
structure A5T (l:List (List Int)):Prop where
 len:l.length≤257
 wid:∀c∈l,c.length≤64
theorem Md {l:List (List Int)} (h:∀c∈l,c.length≤64) (k:Nat):(l.getD k []).length≤64:=by
 rw[AS];cases hh:l[k]? with
 | none=>simp
 | some x=>exact h x (AAB hh)
theorem gZ {l:List (List Int)} (h:∀c∈l,c.length≤64) (i k:Nat):∀c∈Gj l i k,c.length≤64:=by
 unfold Gj;split
 ·intro c a;rcases Of.1 a with a|a
  ·exact h c a
  ·have:c=EO (l.getD i []) (l.getD k []):=by simpa using a
   rw[this];exact TO (gY _ _) (Md h i)
 ·exact h
theorem A1F (l:List (List Int)) (i k:Nat):l.length≤(Gj l i k).length∧(Gj l i k).length≤l.length+1:=by
 unfold Gj;split
 ·simp
 ·exact⟨Is _,Nat.le_succ _⟩
def ZP:Ad:={ ins:=[Sn],pre:=fun(c,_)=>List.length c≤256∧∀x∈(c:List (List Int)),x.length≤64,out:=fun(c,_)=>[.p Sn (Au c)] }
theorem vJ:Ag Tryz.prog 100 ZP:=by
 refine fK [0,2,3,4,5,6,18,28,48] Tryz.func100 Tryz.ntmps100 (AF mU (AF A6E AG)) ?_;rintro w0 O0 ⟨c,u⟩ d-⟨n,t⟩;have n:c.length≤256:=n;simp only[ZP,AM];repeat'(first|exact trivial|refine eS rfl ?_|refine AB ?_|refine rX d ?_ ?_|refine rC ?_ ?_<;>intro a<;>try(cases a;done))
 ·simp only[AO];dsimp only[Ty.den]at *;omega
 ·refine AH (ι:={x:Nat×List (List Int)//x.1≤256∧A5T x.2∧Ii (257-x.1) x.1 x.2=Au c}) (fun x=>⟨[(3,.sr 7 EM 0 x.1.2.length),(4,.p (.int .i64) (x.1.1:Int))],[(7,.arr 81 EM x.1.2)]⟩) (fun x=>257-x.1.1) ⟨(0,c),by simp,⟨by simp only;omega,t⟩,rfl⟩ (eW [(7,.nm 7)]) (fun x=>?_)
  ·obtain⟨⟨i,l⟩,hi,⟨q,s⟩,f⟩:=x;simp only at hi q s f;simp only;repeat'(first|exact trivial|refine eS rfl ?_|refine AB ?_|refine rX d ?_ ?_|refine rC ?_ ?_<;>intro a<;>try(cases a;done))
   ·have w:i<l.length:=by omega
    have z:l.length≤256:=by omega
    have o:Ii (256-i) (i+1) (Gk i i 0 l)=Au c:=by
     have e:257-i=(256-i)+1:=by omega
     rw[←f,e];show _=if i<l.length∧l.length≤256 then Ii (256-i) (i+1) (Gk i i 0 l) else l
     rw[BY ⟨w,z⟩]
    refine AH (ι:={y:Nat×List (List Int)//y.1≤i∧A5T y.2∧l.length≤y.2.length∧Gk i (i-y.1) y.1 y.2=Gk i i 0 l}) (fun y=>⟨[(3,.sr 7 EM 0 y.1.2.length),(4,.p (.int .i64) (i:Int)),(5,.p (.int .i64) (y.1.1:Int))],[(7,.arr 81 EM y.1.2)]⟩) (fun y=>i-y.1.1) ⟨(0,l),by simp,⟨q,s⟩,Is _,rfl⟩ (eW [(7,.nm 7)]) (fun y=>?_)
    ·obtain⟨⟨k,m⟩,hk,⟨g,b⟩,r,hf⟩:=y;simp only at hk g b r hf;simp only;repeat'(first|exact trivial|refine eS rfl ?_|refine AB ?_|refine rX d ?_ ?_|refine rC ?_ ?_<;>intro a<;>try(cases a;done))
     ·exact⟨by exact eV,by exact eV,TO (Md b i) (by decide)⟩
     ·simp only[AO];omega
     ·omega
     ·have e:Gj m i k=m++[EO (m.getD i []) (m.getD k [])]:=by
       unfold Gj;rw[BY];rw[As,IS,bY];exact a
      have C:=gZ b i k;have D:=A1F m i k;refine⟨⟨(k+1,Gj m i k),by simp only;omega,⟨by simp only;omega,C⟩,by simp only;omega,?_⟩,by simp only;omega,AC [(7,.nm 7)] rfl rfl ?_ ?_⟩
      ·simp only;rw[←hf,show i-k=(i-(k+1))+1 by omega];show _=if m.length≤256 then Gk i (i-(k+1)) (k+1) (Gj m i k) else m
       rw[BY (by omega)]
      ·simp only[e];exact eN
      ·simp only[e];exact eN
     ·omega
     ·have e:Gj m i k=m:=by
       unfold Gj;rw[At];rw[As,IS,bY];intro h;rw[a h.1]at h;exact absurd h.2 (by simp)
      refine⟨⟨(k+1,m),by simp only;omega,⟨g,b⟩,r,?_⟩,by simp only;omega,AC [(7,.nm 7)] rfl rfl ?_ ?_⟩
      ·simp only;rw[←hf,show i-k=(i-(k+1))+1 by omega];show _=if m.length≤256 then Gk i (i-(k+1)) (k+1) (Gj m i k) else m
       rw[BY (by omega),e]
      ·exact eN
      ·exact eN
     ·omega
     ·have B:m=Gk i i 0 l:=by
       rw[←hf];cases A:i-k with
       | zero=>rfl
       | succ j =>
        show _=if m.length≤256 then _ else m
        rw[At (by omega)]
      rw[←B]at o;refine⟨⟨(i+1,m),by simp only;omega,⟨g,b⟩,?_⟩,by simp only;omega,AC [(7,.nm 7)] rfl rfl ?_ ?_⟩
      ·simp only;rw[show 257-(i+1)=256-i by omega];exact o
      ·exact eN
      ·exact eN
   ·have v:l=Au c:=by
     rw[←f];cases A:257-i with
     | zero=>rfl
     | succ m =>
      show _=if i<l.length∧l.length≤256 then _ else l
      rw[At (by omega)]
    rw[←v];refine Gg [7] ?_;exact fI d [.tmp 2]
theorem cs0 {α:Type} (x y:α):(if ({ data:=#[] }:ByteArray).size≤AO then x else y)=x:=BY (by show 0≤AO;decide)
theorem cs1 {α:Type} (a:UInt8) (x y:α):(if ({ data:=#[a] }:ByteArray).size≤AO then x else y)=x:=BY (by show 1≤AO;decide)
theorem cs2 {α:Type} (a b:UInt8) (x y:α):(if ({ data:=#[a,b] }:ByteArray).size≤AO then x else y)=x:=BY (by show 2≤AO;decide)
theorem cs3 {α:Type} (a b c:UInt8) (x y:α):(if ({ data:=#[a,b,c] }:ByteArray).size≤AO then x else y)=x:=BY (by show 3≤AO;decide)
theorem cs4 {α:Type} (a b c d:UInt8) (x y:α):(if ({ data:=#[a,b,c,d] }:ByteArray).size≤AO then x else y)=x:=BY (by show 4≤AO;decide)
theorem cs5 {α:Type} (a b c d e:UInt8) (x y:α):(if ({ data:=#[a,b,c,d,e] }:ByteArray).size≤AO then x else y)=x:=BY (by show 5≤AO;decide)
theorem cs6 {α:Type} (a b c d e f:UInt8) (x y:α):(if ({ data:=#[a,b,c,d,e,f] }:ByteArray).size≤AO then x else y)=x:=BY (by show 6≤AO;decide)
theorem cs7 {α:Type} (a b c d e f g:UInt8) (x y:α):(if ({ data:=#[a,b,c,d,e,f,g] }:ByteArray).size≤AO then x else y)=x:=BY (by show 7≤AO;decide)
theorem cs8 {α:Type} (a b c d e f g h:UInt8) (x y:α):(if ({ data:=#[a,b,c,d,e,f,g,h] }:ByteArray).size≤AO then x else y)=x:=BY (by show 8≤AO;decide)
end
def BC (b:List Int) (i:Nat):Bool:=(b.getD (i / 64) 0).toNat.testBit (i % 64)
def U64 (x:Int):Prop:=0≤x∧x<18446744073709551616
theorem Ft {x:Int} (h:U64 x):(BitVec.ofInt 64 x).toNat=x.toNat:=by
 rw[BitVec.toNat_ofInt];have h1:=h.1;have a:=h.2;rw[Int.emod_eq_of_lt h1 (by simpa using a)]
theorem P6 {n:Nat} (h:n<18446744073709551616):IntKind.u64.wrap (n:Int)=n:=K6 (by rw[Hx];omega)
theorem A4z {x y:Int} (a:U64 x) (b:U64 y):CB .or .u64 x y=((x.toNat ||| y.toNat:Nat):Int):=by
 have h1:(BitVec.ofInt IntKind.u64.bits x ||| BitVec.ofInt IntKind.u64.bits y).toNat=x.toNat ||| y.toNat:=by
  rw[BitVec.toNat_or];show (BitVec.ofInt 64 x).toNat ||| (BitVec.ofInt 64 y).toNat=_
  rw[Ft a,Ft b]
 unfold CB;simp only;rw[h1];have e:(18446744073709551616:Nat)=2 ^ 64:=by decide
 refine P6 ?_;rw[e];refine Nat.or_lt_two_pow ?_ ?_
 ·have:=a.2;have:=a.1;omega
 ·have:=b.2;have:=b.1;omega
theorem Ij {x y:Int} (a:U64 x) (b:U64 y):CB .and .u64 x y=((x.toNat &&& y.toNat:Nat):Int):=by
 have h1:(BitVec.ofInt IntKind.u64.bits x &&& BitVec.ofInt IntKind.u64.bits y).toNat=x.toNat &&& y.toNat:=by
  rw[BitVec.toNat_and];show (BitVec.ofInt 64 x).toNat &&& (BitVec.ofInt 64 y).toNat=_;rw[Ft a,Ft b]
 unfold CB;simp only;rw[h1];refine P6 (ACx ACs ?_);have:=a.2;have:=a.1;omega
theorem RK {x y:Int}:CB .andNot .u64 x y=((BitVec.ofInt 64 x &&& ~~~BitVec.ofInt 64 y).toNat:Int):=by
 show IntKind.u64.wrap ((BitVec.ofInt 64 x &&& ~~~BitVec.ofInt 64 y).toNat:Int)=_;exact P6 (BitVec.isLt _)
theorem SL {x y:Int} (d:U64 x) (e:U64 y) (h:CB .andNot .u64 x y=0) {r:Nat} (c:r<64) (b:x.toNat.testBit r=true):y.toNat.testBit r=true:=by
 rw[RK]at h;have h1:(BitVec.ofInt 64 x &&& ~~~BitVec.ofInt 64 y).toNat=0:=by omega
 have a:(BitVec.ofInt 64 x &&& ~~~BitVec.ofInt 64 y).toNat.testBit r=false:=by rw[h1];exact Nat.zero_testBit r
 rw[ABH,BitVec.getLsbD_and,BitVec.getLsbD_not,←ABH,←ABH,Ft d,Ft e,b]at a;simpa[c] using a
theorem SM {x:Int}:CB .andNot .u64 x x=0:=by
 rw[RK];simp
theorem OZ {b:List Int}:∀ {n:Nat},∀k,Ce b n≤k→k<n→b.getD k 0=0
 | 0,k,_,h=>by omega
 | n+1,k,h1,c=>by
  unfold Ce at h1;split at h1
  ·rename_i a;by_cases hk:k=n
   ·rw[hk];exact a
   ·exact OZ k h1 (by omega)
  ·omega
theorem QA (b:List Int) (k:Nat):(BJ b).getD k 0=b.getD k 0:=by
 unfold BJ;by_cases h:k<Ce b b.length
 ·simp[AS,AAe,h]
 ·have h1:(List.take (Ce b b.length) b).getD k 0=0:=by
   rw[AS,AAe,At h];rfl
  rw[h1];by_cases a:k<b.length
  ·exact(OZ k (by omega) a).symm
  ·rw[AS,dO (by omega)];rfl
theorem Oa (b:List Int) (i:Nat):BC (BJ b) i=BC b i:=by unfold BC;rw[QA]
def Ik (b:List Int):Prop:=∀x∈b,U64 x
theorem BG {b:List Int} (h:Ik b) (k:Nat):U64 (b.getD k 0):=by
 rw[AS];cases hh:b[k]? with
 | none=>exact⟨by simp,by simp⟩
 | some x=>exact h x (AAB hh)
theorem Ob {b:List Int} (h:Ik b):Ik (BJ b):=fun x a=>h x (AAu a)
theorem IB (b:List Int) (k:Nat):GR b (k:Int)=b.getD k 0:=by
 unfold GR;split
 ·simp
 ·rename_i h;rw[AS,dO (by omega)];rfl
theorem NH (op:BinOp) (a b:List Int) {n k:Nat} (h:k<n):(Gh op a b n).getD k 0=CB op .u64 (a.getD k 0) (b.getD k 0):=by
 unfold Gh;rw[AS,AA0,AAF h];show CB op .u64 (a.getD k 0) (GR b (k:Int))=_;rw[IB]
theorem ZQ {a b:List Int} (h:FX a b=true) {k:Nat} (hk:k<a.length):CB .andNot .u64 (a.getD k 0) (b.getD k 0)=0:=by
 unfold FX RF BJ at h;have h1:(List.take (Ce (Gh .andNot a b a.length) (Gh .andNot a b a.length).length) (Gh .andNot a b a.length)).length=0:=by
  have:=AAq.1 h;omega
 rw[OS,Ez]at h1;have d:=Uc (Gh .andNot a b a.length) a.length;have c:=OZ (b:=Gh .andNot a b a.length) (n:=a.length) k (by omega) hk;rw[NH _ _ _ hk]at c;exact c
theorem Me {a b:List Int} (ha:Ik a) (c:Ik b) (h:FX a b=true) {i:Nat} (hi:BC a i=true):BC b i=true:=by
 by_cases hk:i / 64<a.length
 ·exact SL (BG ha _) (BG c _) (ZQ h hk) (ACW _ (by decide)) hi
 ·exfalso;unfold BC at hi;rw[AS,dO (by omega)]at hi;simp at hi
theorem RL {b:List Int}:∀ {n:Nat},(∀k,k<n→b.getD k 0=0)→Ce b n=0
 | 0,_=>rfl
 | n+1,h=>by
  unfold Ce;rw[BY (h n (by omega))];exact RL fun k hk=>h k (by omega)
theorem g9 (a:List Int):FX a a=true:=by
 unfold FX RF BJ;have h1:Ce (Gh .andNot a a a.length) (Gh .andNot a a a.length).length=0:=by
  rw[Ez];exact RL fun k hk=>by rw[NH _ _ _ hk];exact SM
 rw[h1];rfl
theorem hC (a:List Int):DX a a=true:=by unfold DX;rw[g9];rfl
theorem A4A {b:List Int} (j:Ik b) (l:b.length=64) {x:Int} (h0:0≤x) (h1:x≤4095) (i:Nat):BC (vG b x) i=(BC b i||decide (x=(i:Int))):=by
 have d:Int.tdiv x 64=x / 64:=AAG h0;have e:Int.tmod x 64=x % 64:=ABy h0;obtain⟨n,rfl⟩:∃n:Nat,x=(n:Int):=⟨x.toNat,by omega⟩;have hs:Sh .u64 1 ((n:Int) % 64)=((2 ^ (n % 64):Nat):Int):=by
  unfold Sh;have f:min ((n:Int) % 64).toNat IntKind.u64.bits=n % 64:=by
   have:((n:Int) % 64).toNat=n % 64:=by omega
   rw[this];have:IntKind.u64.bits=64:=rfl;omega
  rw[f,Int.one_mul];have:(2:Int) ^ (n % 64)=((2 ^ (n % 64):Nat):Int):=by simp
  rw[this];refine P6 ?_;have a:(2:Nat) ^ (n % 64)<2 ^ 64:=Nat.pow_lt_pow_right (by decide) (ACW _ (by decide));exact a
 have hu:U64 (Sh .u64 1 ((n:Int) % 64)):=by
  rw[hs];have a:(2:Nat) ^ (n % 64)<2 ^ 64:=Nat.pow_lt_pow_right (by decide) (ACW _ (by decide));have g:(2:Nat) ^ 64=18446744073709551616:=by decide
  refine⟨AA1 _,?_⟩;rw[g]at a;exact OR.2 a
 have hn:((n:Int) / 64).toNat=n / 64:=by omega
 unfold vG BC;rw[d,e,hn];by_cases c:i / 64=n / 64
 ·have k:n / 64<b.length:=by omega
  rw[c];have:(b.set (n / 64) (CB .or .u64 (b.getD (n / 64) 0) (Sh .u64 1 ((n:Int) % 64)))).getD (n / 64) 0=CB .or .u64 (b.getD (n / 64) 0) (Sh .u64 1 ((n:Int) % 64)):=by
   simp[AS,k]
  rw[this,A4z (BG j _) hu,hs];simp only[iN,Nat.testBit_or,Nat.testBit_two_pow]
  congr 1
  rw[decide_eq_decide];omega
 ·have:(b.set (n / 64) (CB .or .u64 (b.getD (n / 64) 0) (Sh .u64 1 ((n:Int) % 64)))).getD (i / 64) 0=b.getD (i / 64) 0:=by
   simp[AS,AAy,ACX c]
  rw[this];have:decide ((n:Int)=(i:Int))=false:=by
   rw[On];intro h;exact c (by omega)
  rw[this,Bool.or_false]
theorem A4B {b:List Int} (c:Ik b) (x:Int):Ik (vG b x):=by
 intro y a;unfold vG at a;rcases ABn a with h|h
 ·exact c y h
 ·rw[h];have:=M0 .u64 ((BitVec.ofInt IntKind.u64.bits (b.getD (x.tdiv 64).toNat 0) ||| BitVec.ofInt IntKind.u64.bits (Sh .u64 1 (x.tmod 64))).toNat:Int);rw[Hx]at this;exact⟨this.1,by have:=this.2;show _<_;exact AC5 this (by decide)⟩
theorem A4C {l:List Int} (h:l.all okB=true) (i:Nat):BC (x6 l) i=decide ((i:Int)∈l)∧Ik (x6 l):=by
 have key:∀(l b:List Int),l.all okB=true→Ik b→b.length=64→BC (l.foldl vG b) i=(BC b i||decide ((i:Int)∈l))∧Ik (l.foldl vG b):=by
  intro l;induction l with
  | nil=>intro b _ a _;simp[a]
  | cons x l m =>
   intro b c a d;rw[ABh,As]at c;have e:=c.1;unfold okB at e;rw[bY,AAC,On,On]at e;obtain⟨f,g⟩:=m (vG b x) c.2 (A4B a x) (by simp[vG,d]);rw[O5];refine⟨?_,g⟩;rw[f,A4A a d (by omega) (by omega),Bool.or_assoc]
   congr 1
   rw[←Bool.decide_or,decide_eq_decide,By,eq_comm]
 have j:Ik (List.replicate 64 (0:Int)):=by
  intro y k;rw[(List.mem_replicate.1 k).2];exact⟨by decide,by decide⟩
 have h1:=key l (List.replicate 64 0) h j (by simp);refine⟨?_,h1.2⟩;unfold x6;rw[h1.1];have:BC (List.replicate 64 (0:Int)) i=false:=by
  unfold BC;have:(List.replicate 64 (0:Int)).getD (i / 64) 0=0:=by
   rw[AS,AAY];split<;>rfl
  rw[this];simp
 rw[this,ACL]
theorem A1H {low all:List ByteArray} {n i:Nat}:((i:Int)∈OY low all n)↔i<n∧AW low (all.getD i ByteArray.empty)=true:=by
 unfold OY;rw[GO];constructor
 ·rintro⟨j,a,e⟩;have:j=i:=by omega
  subst this;rw[AAk,oN]at a;exact a
 ·rintro⟨h1,b⟩;exact⟨i,by rw[AAk,oN];exact⟨h1,b⟩,rfl⟩
theorem A4D {low all:List ByteArray} {n:Nat} (hn:n≤4096):(OY low all n).all okB=true:=by
 rw[IN];intro x a;unfold OY at a;obtain⟨j,b,rfl⟩:=GO.1 a;rw[AAk,oN]at b;unfold okB;rw[bY,AAC,On,On];exact⟨by omega,by omega⟩
theorem Bt {d:List AI} {all:List ByteArray} (c:all.length≤4096) (s:ByteArray) (i:Nat):(BC (E0 d all s) i=true↔i<all.length∧AW (Co d s) (all.getD i ByteArray.empty)=true)∧Ik (E0 d all s)∧(E0 d all s).length≤64:=by
 have h1:=A4D (low:=Co d s) (all:=all) c;have b:=A4C h1 i;have a:E0 d all s=BJ (x6 (OY (Co d s) all all.length)):=by
  unfold E0 ofF;rw[BY h1]
 refine⟨?_,?_,?_⟩
 ·rw[a,Oa,b.1,IS,A1H]
 ·rw[a];exact Ob b.2
 ·rw[a];unfold BJ;have:=Px (OY (Co d s) all all.length);rw[OS];omega
theorem Jc (d:List AI) {s t:ByteArray} (h:Ab s t=true):Am d s=Am d t:=by
 have key:∀(l:List AI) (k:Nat),Cv s k l=Cv t k l:=by
  intro l;induction l with
  | nil=>intro k;rfl
  | cons x l a =>
   intro k;simp only[Cv];have:Ab x.1 s=Ab x.1 t:=by grind [Ab,BT,D7]
   rw[this,a]
 exact key d 0
theorem BF {α:Type} {l:List α} {d:α} {k:Nat} (h:k<l.length):l.getD k d∈l:=by grind
theorem Cf {α:Type} {l:List α} (d:α) {x:α} (h:x∈l):∃k,k<l.length∧l.getD k d=x:=by
 obtain⟨k,hk,e⟩:=AA6.1 h;exact⟨k,hk,by rw[AS,AT hk];exact e⟩
theorem Jd {d:List AI}:∀ {r:List AI} {k:Nat},OW d k r=0→∀j,j<r.length→¬Am d (r.getD j d0).1<((k+j:Nat):Int)∧Ey (r.getD j d0).1 false=true
 | [],_,_,j,a=>by simp at a
 | x :: r,k,h,j,a=>by
  simp only[OW]at h;split at h
  ·cases h
  ·rename_i h1;split at h
   ·cases h
   ·rename_i b;cases j with
    | zero=>exact⟨b,by simpa using h1⟩
    | succ j =>
     have:=Jd h j (by simpa using a);have e:k+(j+1)=k+1+j:=by omega
     rw[e];exact this
theorem QB (s:ByteArray):∀(l:List AI) (k j:Nat),j<l.length→Ab (l.getD j d0).1 s=true→Cv s k l≤((k+j:Nat):Int)
 | [],_,j,h,_=>by simp at h
 | x :: l,k,j,h,e=>by
  simp only[Cv];split
  ·omega
  ·rename_i h1;cases j with
   | zero=>exact absurd e h1
   | succ j =>
    have:=QB s l (k+1) j (by simpa using h) e;omega
theorem Mf {d:List AI} (h:Cm d=0) {j:Nat} (b:j<d.length):Am d (d.getD j d0).1=(j:Int):=by
 have h1:=(Jd h j b).1;have a:=QB (d.getD j d0).1 d 0 j b (Cw _);rw[AAS]at h1 a;have a:Am d (d.getD j d0).1≤(j:Int):=a;omega
theorem QC {d:List AI} (h:Cm d=0) {x y:AI} (a:x∈d) (b:y∈d) (e:Ab x.1 y.1=true):x=y:=by
 obtain⟨i,hi,rfl⟩:=Cf d0 a;obtain⟨j,c,rfl⟩:=Cf d0 b;grind [Mf,Jc]
theorem m8 (d:List AI) (out:List ByteArray) (h:(Id d out).1=true):∃x∈d,x.1=(Id d out).2∧AW out x.1=false∧J6 x out=true:=by
 have key:∀(l:List AI) (s:Bool×ByteArray),(∀x∈l,x∈d)→(s.1=true→∃x∈d,x.1=s.2∧AW out x.1=false∧J6 x out=true)→(l.foldl (Ja out) s).1=true →
   ∃x∈d,x.1=(l.foldl (Ja out) s).2∧AW out x.1=false∧J6 x out=true:=by
  intro l;induction l with
  | nil=>intro s _ hs h;exact hs h
  | cons y l c =>
   intro s a hs h;rw[O5]at h ⊢;refine c _ (fun x b=>a x (by simp[b])) (fun hp=>?_) h;unfold Ja at hp ⊢;split
   ·grind
   ·grind
 exact key d _ (fun _ h=>h) (fun h=>by cases h) h
def PL (d:List AI) (o:List ByteArray):Prop:=∀j,j<o.length→∃x∈d,x.1=o.getD j ByteArray.empty∧AW (o.take j) x.1=false∧J6 x (o.take j)=true
theorem PL.snoc {d:List AI} {o:List ByteArray} (h:PL d o) {x:AI} (i:x∈d) (h1:AW o x.1=false) (f:J6 x o=true):PL d (o++[x.1]):=by
 intro j g;by_cases a:j<o.length
 ·obtain⟨y,k,b,c,e⟩:=h j a;grind
 ·grind
theorem Uk {d:List AI}:∀ {n:Nat} {o:List ByteArray},PL d o→PL d (Jb d n o)
 | 0,_,h=>h
 | n+1,o,h=>by
  unfold Jb;split
  ·rename_i hp;obtain⟨x,b,e,h1,a⟩:=m8 d o hp;rw[←e];exact Uk (h.snoc b h1 a)
  ·exact h
theorem Xk (d:List AI):PL d (Bh d):=Uk fun j a=>by simp at a
theorem PL.ok {d:List AI} {o:List ByteArray} (h:PL d o):ZL d o:=by
 refine⟨fun s hs=>?_,?_⟩
 ·obtain⟨j,a,rfl⟩:=Cf ByteArray.empty hs;obtain⟨x,b,e,-⟩:=h j a;rw[←e];exact Df b
 ·rw[oR];intro i j hi a f;obtain⟨x,b,e,h1,-⟩:=h j a;have c:=Pu h1 o[i] (by rw[ABF];exact⟨i,by omega,rfl⟩);grind
theorem m9 {n:Nat} {l:List Nat} (h:l.Nodup) (c:∀j∈l,j<n) (hn:n≤l.length) {k:Nat} (hk:k<n):k∈l:=by
 refine DO fun b=>?_;have:=EX n (k :: l) (AAt.2 ⟨b,h⟩) (fun j a=>by
  rcases By.1 a with rfl|a
  ·exact hk
  ·exact c j a)
 simp at this;omega
theorem nA {d:List AI} (f:d.length≤(Bh d).length) {x:AI} (h:x∈d):∃s∈Bh d,Ab s x.1=true:=by
 have a:=(Xk d).ok;have h1:=LQ d a;have h0:=Df h;have l:=DY d x.1;have b:=m9 (n:=d.length) h1 (fun j c=>by
  obtain⟨s,hs,rfl⟩:=GO.1 c;have h1:=a.decl s hs;rcases DY d s with g|⟨_,g,_⟩<;>omega) (by simpa using f) (k:=(Am d x.1).toNat) (by omega)
 obtain⟨s,hs,e⟩:=GO.1 b;refine⟨s,hs,?_⟩;rcases DY d s with g|⟨_,_,i⟩
 ·have:=a.decl s hs;omega
 ·grind [BT,D7]
def GT (d:List AI) (s:ByteArray):Nat:=(Bh d).findIdx fun x=>Ab x s
theorem Il (d:List AI) {s t:ByteArray} (h:Ab s t=true):GT d s=GT d t:=by grind [GT,Ab,BT,D7]
theorem LR {d:List AI} (hn:Cm d=0) (o:d.length≤(Bh d).length) {x:AI} (g:x∈d) {s:ByteArray} (hs:AW x.2.1 s=true):GT d s<GT d x.1:=by
 obtain⟨t,q,e⟩:=nA o g;have c:GT d x.1<(Bh d).length:=List.findIdx_lt_length_of_exists ⟨t,q,e⟩;have heq:Ab ((Bh d)[GT d x.1]) x.1=true:=List.findIdx_getElem (w:=c);obtain⟨y,r,a,-,j⟩:=Xk d (GT d x.1) c;rw[AS,AT c]at a;have a:y.1=(Bh d)[GT d x.1]:=a;rw[←a]at heq;have z:=QC hn r g heq;subst z;obtain⟨u,hu,h⟩:=gO.1 hs;have k:AW ((Bh d).take (GT d y.1)) u=true:=IN.1 j u hu;obtain⟨v,f,ev⟩:=gO.1 k;rw[ABF]at f;obtain⟨i,hi,rfl⟩:=f;have n:i<GT d y.1:=by omega
 refine ACx ?_ n;refine DO fun m=>?_;have b:=List.not_of_lt_findIdx (p:=fun x=>Ab x s) (xs:=Bh d) (i:=i) (by unfold GT at m;omega);have l:Ab ((Bh d)[i]) s=true:=BT ev h;try simp only at b
 rw[l]at b;exact absurd b (by simp)
def Wi (d:List AI) (s x:ByteArray):Prop:=Ab s x=true∨GT d s<GT d x
theorem vK {d:List AI} (hn:Cm d=0) (f:d.length≤(Bh d).length) {s c:ByteArray} (b:Wi d s c) {o:List ByteArray} (e:∀x∈o,Wi d s x) {x:AI} (g:x∈d):∀y∈FN c o x,Wi d s y:=by
 intro y a;unfold FN at a;split at a
 ·rename_i h;rw[As]at h;rcases Of.1 a with a|a
  ·exact e y a
  ·have:y=x.1:=by simpa using a
   subst this;have h1:=LR hn f g h.1;right;rcases b with b|b
   ·rw[Il d b];exact h1
   ·omega
 ·exact e y a
theorem Ul {d:List AI} (hn:Cm d=0) (e:d.length≤(Bh d).length) {s c:ByteArray} (b:Wi d s c):∀ {l:List AI} {o:List ByteArray},(∀x∈l,x∈d)→(∀x∈o,Wi d s x)→∀y∈l.foldl (FN c) o,Wi d s y
 | [],_,_,a=>a
 | x :: l,o,f,a=>by
  rw[O5];exact Ul hn e b (fun y g=>f y (by simp[g])) (vK hn e b a (f x (by simp)))
theorem SP {d:List AI} (hn:Cm d=0) (b:d.length≤(Bh d).length) {s:ByteArray}:∀ {n i:Nat} {o:List ByteArray},(∀x∈o,Wi d s x)→∀y∈Cn d n i o,Wi d s y
 | 0,_,_,a=>a
 | n+1,i,o,a=>by
  unfold Cn;split
  ·rename_i hi;exact SP hn b (Ul hn b (a _ (BF hi)) (fun _ h=>h) a)
  ·exact a
theorem A1I {c:ByteArray} {o:List ByteArray} {x:AI} {y:ByteArray} (h:y∈o):y∈FN c o x:=by grind [FN]
theorem NI {c:ByteArray} {y:ByteArray}:∀ {l:List AI} {o:List ByteArray},y∈o→y∈l.foldl (FN c) o
 | [],_,h=>h
 | x :: l,o,h=>by rw[O5];exact NI (A1I h)
theorem LS {d:List AI} {y:ByteArray}:∀ {n i:Nat} {o:List ByteArray},y∈o→y∈Cn d n i o
 | 0,_,_,h=>h
 | n+1,i,o,h=>by
  unfold Cn;split
  ·exact LS (NI h)
  ·exact h
theorem G7 {l:List ByteArray} {s x:ByteArray} (h:x∈Ed l s):x∈l∨x=s:=by grind [Ed]
theorem NJ {l:List ByteArray} {s x:ByteArray} (h:x∈l):x∈Ed l s:=by
 unfold Ed;split
 ·exact h
 ·have a:x∈l.take (atF l s)∨x∈l.drop (atF l s):=Of.1 (by rw[ABA];exact h);grind
theorem QD {l:List ByteArray} {s:ByteArray}:AW (Ed l s) s=true:=by
 unfold Ed;grind [JZ,atF,Ab,AW,Cw]
theorem Fu {l:List ByteArray} {s:ByteArray} (h:s∈l):AW l s=true:=gO.2 ⟨s,h,Cw s⟩
theorem KY {l m:List ByteArray} {s:ByteArray} (hs:∀x∈l,x∈m) (h:AW l s=true):AW m s=true:=by
 obtain⟨x,a,e⟩:=gO.1 h;exact gO.2 ⟨x,hs x a,e⟩
theorem Um:∀ {l o:List ByteArray} {x:ByteArray},x∈l.foldl Ed o→x∈o∨x∈l
 | [],_,_,h=>.inl h
 | y :: l,o,x,h=>by
  rw[O5]at h;rcases Um h with h|h
  ·grind [G7]
  ·grind
theorem Xl:∀ {l o:List ByteArray} {x:ByteArray},x∈o→x∈l.foldl Ed o
 | [],_,_,h=>h
 | y :: l,o,x,h=>by rw[O5];exact Xl (NJ h)
theorem QE:∀ {l o:List ByteArray} {x:ByteArray},x∈l→AW (l.foldl Ed o) x=true
 | [],_,_,h=>by cases h
 | y :: l,o,x,h=>by
  rw[O5];rcases By.1 h with rfl|h
  ·grind [KY,Xl,QD]
  ·exact QE h
theorem Oc {d:List AI} {s:ByteArray} (h:0≤Am d s):AW (Co d s) s=true:=by
 unfold Co;rw[At (by omega)];exact QE (LS (by simp))
theorem Un {d:List AI} (hn:Cm d=0) (c:d.length≤(Bh d).length) {s x:ByteArray} (h:AW (Co d s) x=true):Wi d s x:=by
 obtain⟨y,a,e⟩:=gO.1 h;have b:Wi d s y:=by
  unfold Co at a;split at a
  ·cases a
  ·rcases Um a with a|a
   ·cases a
   ·refine SP hn c (fun z f=>?_) y a;have:z=s:=by simpa using f
    rw[this];exact .inl (Cw s)
 rcases b with b|b
 ·exact .inl (BT b e)
 ·rw[Il d e]at b;exact .inr b
theorem Cy {d:List AI} {s:ByteArray} (h:s∈AN d):∃x∈d,x.1=s:=by
 have key:∀(l:List AI) (o:List ByteArray),s∈l.foldl (fun o x=>Ed o x.1) o→s∈o∨∃x∈l,x.1=s:=by
  intro l;induction l with
  | nil=>intro o h;exact .inl h
  | cons x l a =>
   intro o h;rw[O5]at h;rcases a _ h with h|⟨y,b,e⟩
   ·grind [G7]
   ·grind
 rcases key d [] h with h|h
 ·cases h
 ·exact h
theorem Od {d:List AI} {x:AI} (h:x∈d):AW (AN d) x.1=true:=by
 have b:∀(l:List AI) (o:List ByteArray),∀y∈o,y∈l.foldl (fun o x=>Ed o x.1) o:=by
  intro l;induction l with
  | nil=>intro o y h;exact h
  | cons x l a=>intro o y h;rw[O5];exact a _ y (NJ h)
 have key:∀(l:List AI) (o:List ByteArray),x∈l→AW (l.foldl (fun o x=>Ed o x.1) o) x.1=true:=by
  intro l;induction l with
  | nil=>intro o h;cases h
  | cons y l a =>
   intro o h;rw[O5];rcases By.1 h with rfl|h
   ·grind [KY,QD]
   ·exact a _ h
 exact key d [] h
theorem hH {d:List AI} (hn:Cm d=0) (g:d.length≤(Bh d).length) (r:d.length≤256) {i j:Nat} (hi:i<(AN d).length) (f:j<(AN d).length)
  (h:DX (E0 d (AN d) ((AN d).getD i ByteArray.empty)) (E0 d (AN d) ((AN d).getD j ByteArray.empty))=true):Ab ((AN d).getD i ByteArray.empty) ((AN d).getD j ByteArray.empty)=true:=by
 have o:=D6 d d.length;rw[iS]at o;have a:(AN d).length≤4096:=by omega
 generalize hs:(AN d).getD i ByteArray.empty=s at *;generalize b:(AN d).getD j ByteArray.empty=t at *;have p:0≤Am d s:=by
  obtain⟨x,c,e⟩:=Cy (s:=s) (by rw[←hs];exact BF hi);rw[←e];exact Df c
 have q:0≤Am d t:=by
  obtain⟨x,c,e⟩:=Cy (s:=t) (by rw[←b];exact BF f);rw[←e];exact Df c
 obtain⟨c1,k,-⟩:=Bt (d:=d) a s i;obtain⟨c2,l,-⟩:=Bt (d:=d) a t i;obtain⟨m,-,-⟩:=Bt (d:=d) a s j;obtain⟨n,-,-⟩:=Bt (d:=d) a t j;unfold DX at h;rw[As]at h;have b1:=Un hn g (c2.1 (Me k l h.1 (c1.2 ⟨hi,by rw[hs];exact Oc p⟩))).2;have b2:=Un hn g (m.1 (Me l k h.2 (n.2 ⟨f,by rw[b];exact Oc q⟩))).2;rw[hs]at b1;rw[b]at b2;rcases b1 with b1|b1
 ·exact D7 b1
 ·rcases b2 with b2|b2
  ·exact b2
  ·omega
section
attribute [local go_sem] ZE A1q Mb cs0 cs1
def rG (d:List AI) (all:List ByteArray) (codes:List (List Int)) (b:List Int):Nat→Nat→List ByteArray→ByteArray ⊕ List ByteArray
 | 0,_,l=>.inr l
 | n+1,i,l=>if DX (codes.getD i []) b=true then .inl (all.getD i ByteArray.empty) else rG d all codes b n (i+1) (if RE b (i:Int)=true then l++[all.getD i ByteArray.empty] else l)
def Xm (l:List ByteArray) (s:ByteArray) (i:Nat):ByteArray:=(if 0<(i:Int) then s++ByteArray.mk #[38] else s)++l.getD i ByteArray.empty
def hZ (l:List ByteArray):ByteArray:=(List.range l.length).foldl (Xm l) ByteArray.empty
def G8 (d:List AI) (all:List ByteArray) (codes:List (List Int)) (b:List Int):ByteArray :=
 match rG d all codes b all.length 0 [] with
 | .inl s=>s
 | .inr l=>hZ (Ax d l)
theorem Nv {d:List AI} {x:ByteArray}:∀ {l o:List ByteArray},x∈l.foldl (FO d) o→x∈o∨x∈l
 | [],_,h=>.inl h
 | y :: l,o,h=>by
  rw[O5]at h;rcases Nv h with h|h
  ·unfold FO at h;split at h
   ·rcases G7 h with h|h
    ·exact .inl h
    ·exact .inr (by simp[h])
   ·exact .inl h
  ·exact .inr (by simp[h])
theorem Hz {d:List AI} {l:List ByteArray} {x:ByteArray} (h:x∈Ax d l):x∈l:=by
 unfold Ax Pw at h;obtain⟨i,hi,rfl⟩:=GO.1 h;rw[AAk,oN]at hi;rcases Nv (BF (d:=ByteArray.empty) hi.1) with h|h
 ·cases h
 ·exact h
theorem ZR (d:List AI) (l:List ByteArray):(Ax d l).length≤l.length:=TO (gV _ _ _) (J7 d l)
theorem nB {l:List ByteArray} (h:∀s∈l,s.size≤32) (k:Nat):(l.getD k ByteArray.empty).size≤32:=by
 rw[AS];cases hh:l[k]? with
 | none=>simp
 | some x=>exact h x (AAB hh)
def QF (l:List ByteArray) (n:Nat):ByteArray:=(List.range n).foldl (Xm l) ByteArray.empty
theorem Oe (l:List ByteArray) (n:Nat):QF l (n+1)=Xm l (QF l n) n:=by
 unfold QF;rw[AAd,ABu];rfl
theorem Uo {l:List ByteArray} (h:∀s∈l,s.size≤32):∀n,(QF l n).size≤33*n
 | 0=>by simp[QF]
 | n+1=>by
  have h1:=Uo h n;have a:=nB h n;rw[Oe];unfold Xm;split
  ·rw[ABD,ABD];have:(ByteArray.mk #[38]).size=1:=rfl;omega
  ·rw[ABD];omega
def ZS:Ad:={ ins:=[FW,CA,Sn,EM],pre:=fun(d,all,codes,b,_)=>Pt d∧List.length d≤256∧List.length all≤256∧List.length codes=List.length all∧(∀s∈(all:List ByteArray),s.size≤32)∧(∀x∈(codes:List (List Int)),x.length≤64)∧List.length b≤64,out:=fun(d,all,codes,b,_)=>[.p T9 (G8 d all codes b)] }
theorem vL:Ag Tryz.prog 101 ZS:=by
 refine fK [0,1,2,3,8,9,10,11,12,16,24,31,45,49] Tryz.func101 Tryz.ntmps101 (AF u7 (AF A1r (AF Ug AG))) ?_;rintro w0 O0 ⟨d,all,codes,b,u⟩ e-⟨hs,z,t,q,C,y,w⟩;have t:all.length≤256:=t;have q:codes.length=all.length:=q;simp only[ZS,AM];repeat'(first|exact trivial|refine eS rfl ?_|refine AB ?_|refine rX e ?_ ?_|refine rC ?_ ?_<;>intro a<;>try(cases a;done))
 refine AH (ι:={x:Nat×List ByteArray//x.1≤all.length∧x.2.length≤x.1∧(∀s∈x.2,s.size≤32)∧rG d all codes b (all.length-x.1) x.1 x.2=rG d all codes b all.length 0 []}) (fun x=>⟨[(0,.p FW d),(1,.p CA all),(2,.p Sn codes),(3,.p EM b),(9,.sr 38 T9 0 x.1.2.length),(10,.p (.int .i64) (x.1.1:Int))],[(38,.arr 9 T9 x.1.2)]⟩) (fun x=>all.length-x.1.1) ⟨(0,[]),by simp,by simp,by simp,rfl⟩ (eW [(38,.nil)]) (fun x=>?_)
 ·obtain⟨⟨i,l⟩,hi,B,o,f⟩:=x;simp only at hi B o f;have r:i<all.length→rG d all codes b (all.length-i) i l=if DX (codes.getD i []) b=true then .inl (all.getD i ByteArray.empty) else rG d all codes b (all.length-(i+1)) (i+1) (if RE b (i:Int)=true then l++[all.getD i ByteArray.empty] else l):=by
   intro h;rw[show all.length-i=(all.length-(i+1))+1 by omega];rfl
  simp only;repeat'(first|exact trivial|refine eS rfl ?_|refine AB ?_|refine rX e ?_ ?_|refine rC ?_ ?_<;>intro a<;>try(cases a;done))
  ·exact⟨by rw[q];exact a,TO (Md y i) (by decide),TO w (by decide)⟩
  ·assumption
  ·have c:i<all.length:=by exact eV
   have j:G8 d all codes b=all.getD i ByteArray.empty:=by
    unfold G8;rw[←f,r c,BY a]
   exact fI e [.tmp 8] (by rw[j];exact eR)
  ·have c:i<all.length:=by exact eV
   exact⟨OR.2 c,by simp only[AO];omega⟩
  ·exact eV
  ·have c:i<all.length:=by exact eV
   have hn:=r c;rw[At (by rw[‹DX _ _=false›];simp),BY a]at hn;refine⟨⟨(i+1,l++[all.getD i ByteArray.empty]),by simp only;omega,by simp only[Do,aS];omega,?_,hn.symm.trans f⟩,by simp only;omega,AC [(38,.nm 38)] rfl rfl ?_ ?_⟩
   ·intro s hs;rcases Of.1 hs with hs|hs
    ·exact o s hs
    ·have:s=all.getD i ByteArray.empty:=by simpa using hs
     rw[this];exact nB C i
   ·exact eN
   ·exact eN
  ·exact eV
  ·have c:i<all.length:=by exact eV
   have hn:=r c;rw[At (by rw[‹DX _ _=false›];simp),At (by rw[a];simp)]at hn;exact⟨⟨(i+1,l),by simp only;omega,by simp only;omega,o,hn.symm.trans f⟩,by simp only;omega,eW [(38,.nm 38)]⟩
  ·have j:G8 d all codes b=hZ (Ax d l):=by
    unfold G8;rw[←f];have:all.length-i=0:=by exact eV
    rw[this];rfl
   refine Gg [38] ?_;repeat'(first|exact trivial|refine eS rfl ?_|refine AB ?_|refine rX e ?_ ?_|refine rC ?_ ?_<;>intro a<;>try(cases a;done))
   ·exact⟨hs,z,by omega⟩
   ·have v:∀s∈Ax d l,s.size≤32:=fun s h=>o s (Hz h);have E:=ZR d l;have A:hZ (Ax d l)=QF (Ax d l) (Ax d l).length:=rfl;rw[A]at j;generalize Ax d l=m at *;refine AH (ι:={k:Nat//k≤m.length}) (fun k=>⟨[(9,.p CA m),(11,.p T9 (QF m k.1)),(12,.p (.int .i64) (k.1:Int))],[]⟩) (fun k=>m.length-k.1) ⟨0,NO _⟩ (AC [] rfl rfl ?_ ?_) (fun k=>?_)
    ·exact eN
    ·refine eM ?_;rfl
    ·obtain⟨k,hk⟩:=k;have hk:k≤m.length:=hk;have D:=Uo v k;have n:=Oe m k;have F:=nB v k;unfold Xm at n;simp only;repeat'(first|exact trivial|refine eS rfl ?_|refine AB ?_|refine rX e ?_ ?_|refine rC ?_ ?_<;>intro a<;>try(cases a;done))
     ·have h1:(ByteArray.mk #[38]).size=1:=rfl;rw[h1];simp only[AO];exact eV
     ·refine⟨by assumption,?_⟩;have h1:(ByteArray.mk #[38]).size=1:=rfl;rw[ABD,h1];simp only[AO];exact eV
     ·exact eV
     ·have g:k<m.length:=by exact eV
      rw[BY a]at n;refine⟨⟨k+1,g⟩,by simp only;omega,AC [] rfl rfl ?_ ?_⟩
      ·exact eN
      ·simp only[n];exact eN
     ·refine⟨by assumption,?_⟩;simp only[AO];exact eV
     ·exact eV
     ·have g:k<m.length:=by exact eV
      rw[At (ABc.2 a)]at n;refine⟨⟨k+1,g⟩,by simp only;omega,AC [] rfl rfl ?_ ?_⟩
      ·exact eN
      ·simp only[n];exact eN
     ·have g:k=m.length:=by exact eV
      rw[←g]at j;exact fI e [.tmp 8] (by rw[j];exact eR)
end
section
attribute [local go_sem] TA Ps A1D ZP ZS ZO
def Fv (x:AP) (out:List AP):Nat→Nat
 | 0=>0
 | n+1=>if GC x (out.getD n c0)=true then Fv x out n else n+1
def ZT (out:List AP) (x:AP):List AP:=out.take (Fv x out out.length)++[x]++out.drop (Fv x out out.length)
def AR (d:List AI):List (List Int):=(AN d).map fun s=>E0 d (AN d) s
def Gl (d:List AI) (all:List ByteArray) (codes:List (List Int)) (out:List AP) (b:List Int):List AP:=ZT out (G8 d all codes b,b)
def RM (d:List AI):List AP→List Int→List AP:=Gl d (AN d) (AR d)
theorem Og (d:List AI) (all:List ByteArray) (codes:List (List Int)):∀(l:List (List Int)) (o:List AP),(l.foldl (Gl d all codes) o).length=o.length+l.length
 | [],o=>by simp
 | b :: l,o=>by
  rw[O5,Og d all codes l];unfold Gl ZT;simp only[Do,OS,AAr,OF,AAW];omega
theorem Uq {d:List AI} {all:List ByteArray} {codes:List (List Int)}:∀ {l:List (List Int)} {o:List AP},(∀c∈l,c.length≤64)→(∀y∈o,y.2.length≤64)→∀y∈l.foldl (Gl d all codes) o,y.2.length≤64
 | [],_,_,e=>e
 | b :: l,o,f,e=>by
  rw[O5];refine Uq (fun c g=>f c (by simp[g])) (fun y a=>?_);unfold Gl ZT at a;simp only[Of,AB1]at a;rcases a with (a|a)|a
  ·exact e y (AAu a)
  ·rw[a];exact f b (by simp)
  ·exact e y (ABt a)
theorem iA (x:AP) (out:List AP):∀n,Fv x out n≤n
 | 0=>Is _
 | n+1=>by
  unfold Fv;split
  ·exact Nat.le_succ_of_le (iA x out n)
  ·exact Is _
def AL (d:List AI):List AP:=(Au (AR d)).foldl (RM d) []
def B4 (d:List AI):List AP×Int :=
 if A3 d≠0 then ([],A3 d) else if 256<(Au (AR d)).length then ([],7) else (AL d,0)
theorem nC {s:ByteArray} {b:Bool} (h:Ey s b=true):s.size≤32:=by
 unfold Ey at h;rw[As]at h;have h1:=h.1;unfold RB at h1;simp only[bY,AAC,On]at h1;have:=h1.1.1.2;omega
theorem iB {d:List AI} (hn:Cm d=0):∀s∈AN d,s.size≤32:=by
 intro s hs;obtain⟨x,b,rfl⟩:=Cy hs;obtain⟨j,a,rfl⟩:=Cf d0 b;exact nC (Jd hn j a).2
def LT (d:List AI) (n:Nat):List (List Int):=((AN d).take n).map fun s=>E0 d (AN d) s
theorem nD {d:List AI} {n:Nat} (h:n≤(AN d).length):(LT d n).length=n:=by simp[LT,h]
theorem iC {d:List AI} {n:Nat} (h:n<(AN d).length):LT d (n+1)=LT d n++[E0 d (AN d) ((AN d).getD n ByteArray.empty)]:=by
 unfold LT;rw[AX _ ByteArray.empty h,AAl];rfl
theorem nE (d:List AI):LT d (AN d).length=AR d:=by simp[LT,AR]
theorem nF (d:List AI):(AR d).length=(AN d).length:=by simp[AR]
theorem Oh {d:List AI} (h:d.length≤256):∀c∈AR d,c.length≤64:=by
 intro c a;unfold AR at a;obtain⟨s,-,rfl⟩:=GO.1 a;have b:=D6 d d.length;rw[iS]at b;exact(Bt (d:=d) (all:=AN d) (by omega) s 0).2.2
theorem iD {i:Nat}:∀ {n k:Nat} {l:List (List Int)},(∀c∈l,c.length≤64)→∀c∈Gk i n k l,c.length≤64
 | 0,_,_,h=>h
 | n+1,k,l,h=>by
  unfold Gk;split
  ·exact iD (gZ h i k)
  ·exact h
theorem QG:∀ {n i:Nat} {l:List (List Int)},(∀c∈l,c.length≤64)→∀c∈Ii n i l,c.length≤64
 | 0,_,_,h=>h
 | n+1,i,l,h=>by
  unfold Ii;split
  ·exact QG (iD h)
  ·exact h
theorem iE {out:List AP} {x y:AP}:y∈ZT out x↔y=x∨y∈out:=by
 unfold ZT;rw[Of,Of,AB1];have h:=Of (a:=y) (s:=out.take (Fv x out out.length)) (t:=out.drop (Fv x out out.length));rw[ABA]at h;rw[h];constructor
 ·rintro ((h|h)|h)
  ·exact .inr (.inl h)
  ·exact .inl h
  ·exact .inr (.inr h)
 ·rintro (h|h|h)
  ·exact .inl (.inr h)
  ·exact .inl (.inl h)
  ·exact .inr h
def RN:Ad:={ ins:=[FW],pre:=fun _=>True,out:=fun(d,_)=>[.p KV (B4 d).1,.p WV (B4 d).2] }
theorem QH:Ag Tryz.prog 64 RN:=by
 refine fK [0,2,3,4,5,6,7,8,9,10,11,12,13,17,24,41,45,73] Tryz.func64 Tryz.ntmps64 (AF vE (AF Xc (AF A4y (AF vJ (AF vL (AF vH AG)))))) ?_;rintro w0 O0 ⟨d,u⟩ g - -;simp only[RN,AM];repeat'(first|exact trivial|refine eS rfl ?_|refine AB ?_|refine rX g ?_ ?_|refine rC ?_ ?_<;>intro a<;>try(cases a;done))
 ·have h1:B4 d=([],A3 d):=by unfold B4;rw[BY a]
  exact fI g [.tmp 2,.tmp 3] (by rw[h1];exact eR)
 ·have i:A3 d=0:=by simpa using a
  obtain⟨-,E,-⟩:=Aw i;exact TO E (by decide)
 ·have i:A3 d=0:=by simpa using a
  obtain⟨M,s,-,hn,-⟩:=Aw i;have F:=D6 d d.length;rw[iS]at F;have N:=iB hn;refine AH (ι:={n:Nat//n≤(AN d).length}) (fun n=>⟨[(0,.p FW d),(5,.p CA (AN d)),(6,.sr 36 EM 0 (LT d n.1).length),(7,.p (.int .i64) (n.1:Int))],[(36,.arr 81 EM (LT d n.1))]⟩) (fun n=>(AN d).length-n.1) ⟨0,NO _⟩ (AC [(36,.nil)] rfl rfl ?_ ?_) (fun n=>?_)
  ·refine eM ?_;rfl
  ·refine eM ?_;rfl
  ·obtain⟨n,I⟩:=n;have Q:=nD I;have hs:=fun h=>iC (d:=d) (n:=n) h;simp only;repeat'(first|exact trivial|refine eS rfl ?_|refine AB ?_|refine rX g ?_ ?_|refine rC ?_ ?_<;>intro a<;>try(cases a;done))
   ·refine⟨a,⟨s,by dsimp only[Ty.den]at *;omega⟩,?_⟩;simp only[AO];dsimp only[Ty.den]at *;omega
   ·exact eV
   ·have w:n<(AN d).length:=by exact eV
    have e:=hs w;refine⟨⟨n+1,by omega⟩,by simp only;omega,AC [(36,.nm 36)] rfl rfl ?_ ?_⟩
    ·simp only[e];exact eN
    ·simp only[e];exact eN
   ·have w:n=(AN d).length:=by exact eV
    subst w;rw[nE];have H:=nF d;have x:=Oh s;have t:∀c∈Au (AR d),c.length≤64:=QG x;refine Gg [36] ?_;repeat'(first|exact trivial|refine eS rfl ?_|refine AB ?_|refine rX g ?_ ?_|refine rC ?_ ?_<;>intro a<;>try(cases a;done))
    ·exact⟨by omega,x⟩
    ·have h1:B4 d=([],7):=by
      unfold B4;rw[At (by rw[i];simp),BY (by omega)]
     exact fI g [.tmp 2,.tmp 3] (by rw[h1];exact eR)
    ·have D:B4 d=((Au (AR d)).foldl (Gl d (AN d) (AR d)) [],0):=by
      unfold B4;rw[At (by rw[i];simp),At (by omega)];rfl
     generalize Au (AR d)=f at *;generalize AR d=codes at *;generalize AN d=all at *;refine AH (ι:={k:Nat//k≤f.length}) (fun k=>⟨[(0,.p FW d),(5,.p CA all),(6,.p Sn codes),(8,.p Sn f),(9,.sr 9 ZC 0 ((f.take k.1).foldl (Gl d all codes) []).length),(10,.p (.int .i64) (k.1:Int))],[(9,.arr 104 ZC ((f.take k.1).foldl (Gl d all codes) []))]⟩) (fun k=>f.length-k.1) ⟨0,NO _⟩ (AC [(9,.nil)] rfl rfl ?_ ?_) (fun k=>?_)
     ·refine eM ?_;rfl
     ·refine eM ?_;rfl
     ·obtain⟨k,hk⟩:=k;have C:=Og d all codes (f.take k) [];have O:(f.take k).length=k:=by rw[OS];exact AAU hk
      have J:=Uq (d:=d) (all:=all) (codes:=codes) (l:=f.take k) (o:=[]) (fun c g=>t c (AAu g)) (by simp);have L:=fun h:k<f.length=>FA (Gl d all codes) f [] [] h;rw[O]at C;simp only[AAW,AAS]at C;generalize B:(f.take k).foldl (Gl d all codes) []=out at *;simp only;repeat'(first|exact trivial|refine eS rfl ?_|refine AB ?_|refine rX g ?_ ?_|refine rC ?_ ?_<;>intro a<;>try(cases a;done))
      ·exact⟨a,⟨M,s,by omega,H,N,x,Md t k⟩,a⟩
      ·have v:k<f.length:=by exact eV
       have e:=L v;have G:=Md t k;generalize f.getD k []=b at *;unfold Gl at e;generalize G8 d all codes b=nm at *;refine AH (ι:={q:Nat//q≤out.length∧Fv (nm,b) out q=Fv (nm,b) out out.length}) (fun q=>⟨[(0,.p FW d),(5,.p CA all),(6,.p Sn codes),(8,.p Sn f),(9,.sr 9 ZC 0 out.length),(10,.p (.int .i64) (k:Int)),(11,.bp 11 [] 0),(12,.p (.int .i64) (q.1:Int))],[(9,.arr 104 ZC out),(11,.box 104 true [.p T9 nm,.p EM b])]⟩) (fun q=>q.1) ⟨out.length,Is _,rfl⟩ (eW [(9,.nm 9),(11,.nm 11)]) (fun q=>?_)
       ·obtain⟨q,j,A⟩:=q;have j:q≤out.length:=j;simp only;repeat'(first|exact trivial|refine eS rfl ?_|refine AB ?_|refine rX g ?_ ?_|refine rC ?_ ?_<;>intro a<;>try(cases a;done))
        ·refine⟨fun h=>by omega,fun h=>by exact eV,fun h=>⟨TO G (by decide),TO (J _ (AD out c0 (k:=((q:Int)-1).toNat) (by omega))) (by decide)⟩⟩
        ·omega
        ·obtain⟨P,z⟩:=a;obtain⟨q,rfl⟩:∃r,q=r+1:=⟨q-1,by omega⟩;have m:((q+1:Nat):Int)-1=(q:Int):=by omega
         refine⟨⟨q,by omega,?_⟩,ACM q,AC [(9,.nm 9),(11,.nm 11)] rfl rfl ?_ ?_⟩
         ·rw[←A];rw[m,iN]at z;show _=if GC (nm,b) (out.getD q c0)=true then Fv (nm,b) out q else q+1
          rw[BY z]
         ·exact eN
         ·refine eM ?_;show (q:Int)+1-1=q;omega
        ·refine⟨f8.2 j,?_⟩;rw[OS];simp only[AO];omega
        ·rw[OS];simp only[AO];omega
        ·refine⟨f8.2 j,?_⟩;rw[OS,AAr];simp only[AO];omega
        ·omega
        ·have K:Fv (nm,b) out q=q:=by
          cases q with
          | zero=>rfl
          | succ q =>
           have m:((q+1:Nat):Int)-1=(q:Int):=by omega
           have:=a (by omega);rw[m,iN]at this;show (if GC (nm,b) (out.getD q c0)=true then Fv (nm,b) out q else q+1)=q+1;rw[At (by rw[this];simp)]
         unfold ZT at e;rw[←A,K]at e;refine⟨⟨k+1,by omega⟩,by simp only;omega,AC [(9,.nm 80)] rfl rfl ?_ ?_⟩
         ·refine eM ?_;exact e.symm
         ·refine eM ?_;have y:=AB6 List.length e;rw[Do,Do]at y;exact y.symm
      ·have v:k=f.length:=by exact eV
       rw[v,iS]at B;rw[B]at D;refine Gg [9] ?_;exact fI g [.tmp 2,.tmp 3] (by rw[D];exact eR)
end
theorem Xn {d:List AI}:∀ {l:List (List Int)} {o:List AP} {y:AP},y∈l.foldl (RM d) o↔y∈o∨∃b∈l,y=(G8 d (AN d) (AR d) b,b)
 | [],o,y=>by simp
 | b :: l,o,y=>by
  rw[O5,Xn];unfold RM Gl;rw[iE];simp only[By];constructor
  ·rintro ((h|h)|⟨c,a,e⟩)
   ·exact .inr ⟨b,.inl rfl,h⟩
   ·exact .inl h
   ·exact .inr ⟨c,.inr a,e⟩
  ·rintro (h|⟨c,rfl|a,e⟩)
   ·exact .inl (.inr h)
   ·exact .inl (.inl e)
   ·exact .inr ⟨c,a,e⟩
theorem Dg {d:List AI} {y:AP}:y∈AL d↔∃b∈Au (AR d),y=(G8 d (AN d) (AR d) b,b):=by
 unfold AL;rw[Xn];simp
theorem Im (d:List AI):(AL d).length=(Au (AR d)).length:=by
 have h:=Og d (AN d) (AR d) (Au (AR d)) [];rw[AAW,AAS]at h;exact h
theorem A1J {l:List (List Int)} {i k:Nat} {c:List Int} (h:c∈l):c∈Gj l i k:=by
 unfold Gj;split
 ·exact Of.2 (.inl h)
 ·exact h
theorem iG {i:Nat} {c:List Int}:∀ {n k:Nat} {l:List (List Int)},c∈l→c∈Gk i n k l
 | 0,_,_,h=>h
 | n+1,k,l,h=>by
  unfold Gk;split
  ·exact iG (A1J h)
  ·exact h
theorem iH {c:List Int}:∀ {n i:Nat} {l:List (List Int)},c∈l→c∈Ii n i l
 | 0,_,_,h=>h
 | n+1,i,l,h=>by
  unfold Ii;split
  ·exact iH (iG h)
  ·exact h
theorem Je (d:List AI) {i:Nat} (h:i<(AN d).length):(AR d).getD i []=E0 d (AN d) ((AN d).getD i ByteArray.empty):=by
 unfold AR;simp[AS,h]
theorem rH {d:List AI} (hn:Cm d=0) (f:d.length≤(Bh d).length) (c:d.length≤256) {j:Nat} (b:j<(AN d).length):∀(m i:Nat) (l:List ByteArray),i+m=(AN d).length→i≤j →
  ∃s,rG d (AN d) (AR d) ((AR d).getD j []) m i l=.inl s∧Ab s ((AN d).getD j ByteArray.empty)=true
 | 0,i,l,h,g=>by omega
 | m+1,i,l,h,g=>by
  unfold rG;split
  ·rename_i a;refine⟨_,rfl,?_⟩;rw[Je d (by omega),Je d b]at a;exact hH hn f c (by omega) b a
  ·rename_i a;have k:i≠j:=by
    intro e;subst e;exact a (hC _)
   exact rH hn f c b m (i+1) _ (by omega) (by omega)
theorem rI (s:ByteArray):∀(l:List AP) (k:Nat),Mc s k l<((k+l.length:Nat):Int)
 | [],k=>by simp only[Mc];omega
 | x :: l,k=>by
  simp only[Mc];split
  ·simp only[OF];omega
  ·have:=rI s l (k+1);simp only[OF];omega
theorem rJ (s:ByteArray):∀(l:List AP) (k:Nat) (x:AP),x∈l→Ab x.1 s=true→0≤Mc s k l
 | [],_,_,h,_=>by cases h
 | y :: l,k,x,h,e=>by
  simp only[Mc];split
  ·omega
  ·rename_i a;rcases By.1 h with rfl|h
   ·exact absurd e a
   ·exact rJ s l (k+1) x h e
theorem Io (l:List AP) (s:ByteArray):BK l s<(l.length:Int):=by
 have:=rI s l 0;rw[AAS]at this;exact this
theorem G9 {d:List AI} (h:A3 d=0) {s:ByteArray} (hs:AW (AN d) s=true):0≤BK (AL d) s:=by
 obtain⟨-,b,-,hn,f⟩:=Aw h;obtain⟨t,g,e⟩:=gO.1 hs;obtain⟨j,c,rfl⟩:=Cf ByteArray.empty g;obtain⟨u,hu,a⟩:=rH hn f b c (AN d).length 0 [] (by omega) (by omega);have i:(AR d).length=(AN d).length:=by simp[AR]
 refine rJ s (AL d) 0 (u,(AR d).getD j []) ?_ (BT a e);rw[Dg];refine⟨(AR d).getD j [],iH (BF (by omega)),?_⟩;unfold G8;rw[hu]
theorem SQ {d:List AI} (h:A3 d=0) {x:AI} (a:x∈d):0≤BK (AL d) x.1:=G9 h (Od a)
theorem BU {d:List AI} (h:(B4 d).2=0):A3 d=0∧(Au (AR d)).length≤256∧(B4 d).1=AL d:=by
 unfold B4 at h ⊢;split at h
 ·rename_i h1;exact absurd h h1
 ·rename_i h1;split at h
  ·cases h
  ·rename_i a;exact⟨DO h1,by omega,by rw[At h1,At a]⟩
theorem rK {d:List AI} (h:A3 d=0):0<(AL d).length:=by
 obtain⟨-,-,a,-,-⟩:=Aw h;cases d with
 | nil=>cases a
 | cons x d =>
  have:=SQ h (x:=x) (by simp);have b:=Io (AL (x :: d)) x.1;omega
section
attribute [local go_sem] rE
def A6F (l:List AP) (i k:Int) (m:Nat):Bool:=(m:Int)==i||(m:Int)==k||!Lt l k (m:Int)||!Lt l (m:Int) i
def vM (l:List AP) (i k:Int) (n:Nat):Bool:=(List.range n).all (A6F l i k)
def vN (l:List AP) (i:Int) (k:Nat):Bool:=!((k:Int)==i||!Lt l (k:Int) i)&&vM l i (k:Int) l.length
def Nw (l:List AP) (i:Int) (n:Nat):List Int:=((List.range n).filter fun(k:Nat)=>vN l i k).map fun(k:Nat)=>(k:Int)
def Xo (l:List AP) (i:Int):List Int:=Nw l i l.length
theorem nG (l:List AP) (i:Int) (n:Nat):Nw l i (n+1)=Nw l i n++if vN l i n=true then [(n:Int)] else []:=by
 unfold Nw;rw[AAd,ABr,AAl]
 congr 1
 rw[AAn,AC3];split<;>rfl
theorem vO (l:List AP) (i:Int) (n:Nat):(Nw l i n).length≤n:=by
 unfold Nw;rw[To];exact TO (AAK _ _) (by simp)
theorem vP (l:List AP) (i k:Int) (n:Nat):vM l i k (n+1)=(vM l i k n&&A6F l i k n):=by
 unfold vM;rw[AAd,ABK];simp
def A1K:Ad:={ ins:=[KV,T3],pre:=fun(l,i,_)=>((0:Int)≤i∧i<(List.length l:Int))∧List.length l≤256∧(∀x∈(l:List AP),x.2.length≤64),out:=fun(l,i,_)=>[.p GM (Xo l i)] }
theorem A4E:Ag Tryz.prog 65 A1K:=by
 refine fK [0,1,4,5,6,7,8,12,24,28,56] Tryz.func65 Tryz.ntmps65 (AF rF AG) ?_;rintro w0 O0 ⟨l,i,u⟩ c-⟨hi,g,o⟩;have g:l.length≤256:=g;have f:∀x∈(l:List AP),x.2.length≤100000:=fun x h=>TO (o x h) (by decide);simp only[A1K,AM];repeat'(first|exact trivial|refine eS rfl ?_|refine AB ?_|refine rX c ?_ ?_|refine rC ?_ ?_<;>intro a<;>try(cases a;done))
 refine AH (ι:={k:Nat//k≤l.length}) (fun k=>⟨[(0,.p KV l),(1,.p T3 i),(5,.sr 60 T3 0 (Nw l i k.1).length),(6,.p (.int .i64) (k.1:Int))],[(60,.arr 3 T3 (Nw l i k.1))]⟩) (fun k=>l.length-k.1) ⟨0,NO _⟩ (AC [(60,.nil)] rfl rfl ?_ ?_) (fun k=>?_)
 ·refine eM ?_;rfl
 ·refine eM ?_;rfl
 ·obtain⟨k,hk⟩:=k;have hk:k≤l.length:=hk;have q:=vO l i k;have hs:=nG l i k;simp only;repeat'(first|exact trivial|refine eS rfl ?_|refine AB ?_|refine rX c ?_ ?_|refine rC ?_ ?_<;>intro a<;>try(cases a;done))
  ·intro h;exact⟨by assumption,hi,f⟩
  ·exact eV
  ·have e:k<l.length:=by exact eV
   have b:vN l i k=false:=by
    unfold vN;rw[AAP];left;rw[AB3,AAi,AAq,bY];exact a
   rw[b,At (by simp),AAh]at hs;refine⟨⟨k+1,by omega⟩,by simp only;omega,AC [(60,.nm 60)] rfl rfl ?_ ?_⟩
   ·simp only[hs];exact eN
   ·simp only[hs];exact eN
  ·have e:k<l.length:=by exact eV
   have b:vN l i k=vM l i (k:Int) l.length:=by
    unfold vN;rw[show ((k:Int)==i||!Lt l (k:Int) i)=false by
     rw[AAC,AB8,AB3];exact a]
    rfl
   refine AH (ι:={m:Nat//m≤l.length}) (fun m=>⟨[(0,.p KV l),(1,.p T3 i),(5,.sr 60 T3 0 (Nw l i k).length),(6,.p (.int .i64) (k:Int)),(7,.p .bool (vM l i (k:Int) m.1)),(8,.p (.int .i64) (m.1:Int))],[(60,.arr 3 T3 (Nw l i k))]⟩) (fun m=>l.length-m.1) ⟨0,NO _⟩ (AC [(60,.nm 60)] rfl rfl ?_ ?_) (fun m=>?_)
   ·exact eN
   ·refine eM ?_;rfl
   ·obtain⟨m,j⟩:=m;have j:m≤l.length:=j;have n:=vP l i (k:Int) m;simp only;repeat'(first|exact trivial|refine eS rfl ?_|refine AB ?_|refine rX c ?_ ?_|refine rC ?_ ?_<;>intro a<;>try(cases a;done))
    ·exact⟨fun h=>⟨by assumption,a,f⟩,fun h=>⟨a,hi,f⟩⟩
    ·exact eV
    ·have d:m<l.length:=by exact eV
     refine⟨⟨m+1,by omega⟩,by simp only;omega,AC [(60,.nm 60)] rfl rfl ?_ ?_⟩
     ·exact eN
     ·simp only[n];unfold A6F;exact eN
    ·simp only[AO];dsimp only[Ty.den]at *;omega
    ·exact eV
    ·have d:m=l.length:=by exact eV
     subst d;rw[b,BY a]at hs;refine⟨⟨k+1,by omega⟩,by simp only;omega,AC [(60,.nm 60)] rfl rfl ?_ ?_⟩
     ·simp only[hs];exact eN
     ·simp only[hs];exact eN
    ·exact eV
    ·have d:m=l.length:=by exact eV
     subst d;rw[b,At (by rw[a];simp),AAh]at hs;refine⟨⟨k+1,by omega⟩,by simp only;omega,AC [(60,.nm 60)] rfl rfl ?_ ?_⟩
     ·simp only[hs];exact eN
     ·simp only[hs];exact eN
  ·have e:k=l.length:=by exact eV
   subst e;refine Gg [60] ?_;exact fI c [.tmp 4] (by unfold Xo;exact eR)
end
section
attribute [local go_sem] Ps Ub J5
abbrev FV:=ByteArray×ByteArray
abbrev f0V:FV:=(ByteArray.empty,ByteArray.empty)
def x7 (all:List ByteArray) (l:List FV):Nat→List FV→Int
 | _,[]=>0
 | k,x :: r=>if Ey x.1 true=false then 1 else if ((l.take k).any fun y=>Ab y.1 x.1)=true then 4 else if AW all x.2=false then 5 else x7 all l (k+1) r
def ZU (all:List ByteArray):List AI→Int
 | []=>0
 | x :: l=>if x7 all x.2.2 0 x.2.2≠0 then x7 all x.2.2 0 x.2.2 else ZU all l
def LU (d:List AI):Int:=ZU (AN d) d
theorem A1L (all:List ByteArray) (l:List FV) {k:Nat} (h:k<l.length):x7 all l k (l.drop k)=if Ey (l.getD k f0V).1 true=false then 1 else if ((l.take k).any fun y=>Ab y.1 (l.getD k f0V).1)=true then 4 else if AW all (l.getD k f0V).2=false then 5 else x7 all l (k+1) (l.drop (k+1)):=by
 rw[ON h];have e:l.getD k f0V=l[k]:=by simp[AS,h]
 rw[e];rfl
theorem vQ (all:List ByteArray) (l:List AI) {k:Nat} (h:k<l.length):ZU all (l.drop k)=if x7 all (l.getD k d0).2.2 0 (l.getD k d0).2.2≠0 then x7 all (l.getD k d0).2.2 0 (l.getD k d0).2.2 else ZU all (l.drop (k+1)):=by
 rw[ON h];have e:l.getD k d0=l[k]:=by simp[AS,h]
 rw[e];rfl
def nH:Ad:={ ins:=[FW],pre:=fun(d,_)=>List.length d≤256,out:=fun(d,_)=>[.p WV (LU d)] }
theorem A1M:Ag Tryz.prog 121 nH:=by
 refine fK [0,2,3,4,5,6,7,13,24,33,36,49,57] Tryz.func121 Tryz.ntmps121 (AF Xc (AF mT (AF G2 AG))) ?_;rintro w0 O0 ⟨d,u⟩ c ⟨⟨x,v⟩,-⟩ j;have j:d.length≤256:=j;simp only[nH,AM];repeat'(first|exact trivial|refine eS rfl ?_|refine AB ?_|refine rX c ?_ ?_|refine rC ?_ ?_<;>intro a<;>try(cases a;done))
 ·exact TO j (by decide)
 ·have w:LU d=ZU (AN d) d:=rfl;rw[w];generalize AN d=all at *;refine AH (ι:={i:Nat//i≤d.length∧ZU all (d.drop i)=ZU all d}) (fun i=>⟨[(0,.p FW d),(3,.p CA all),(4,.p (.int .i64) (i.1:Int))],[]⟩) (fun i=>d.length-i.1) ⟨0,NO _,rfl⟩ (eW []) (fun i=>?_)
  ·obtain⟨i,hi,hf⟩:=i;simp only;repeat'(first|exact trivial|refine eS rfl ?_|refine AB ?_|refine rX c ?_ ?_|refine rC ?_ ?_<;>intro a<;>try(cases a;done))
   ·exact a
   ·have o:i<d.length:=by exact eV
    rw[vQ all d o]at hf;have A:(d.getD i d0).2.2.length≤AO:=(v _ (AD d d0 o)).2.2.1;have z:(List.getD d i (ByteArray.empty,[],[])).2.2=(d.getD i d0).2.2:=rfl;rw[z];generalize (d.getD i d0).2.2=l at *;simp only[AO]at A;refine AH (ι:={k:Nat//k≤l.length∧x7 all l k (l.drop k)=x7 all l 0 l}) (fun k=>⟨[(0,.p FW d),(3,.p CA all),(4,.p (.int .i64) (i:Int)),(5,.p b5 l),(6,.p (.int .i64) (k.1:Int))],[]⟩) (fun k=>l.length-k.1) ⟨0,NO _,rfl⟩ (eW []) (fun k=>?_)
    ·obtain⟨k,hk,b⟩:=k;have r:=fun h:k<l.length=>A1L all l h;simp only;repeat'(first|exact trivial|refine eS rfl ?_|refine AB ?_|refine rX c ?_ ?_|refine rC ?_ ?_<;>intro a<;>try(cases a;done))
     ·exact a
     ·have e:k<l.length:=by exact eV
      rw[r e,BY a]at b;rw[←b,BY (by decide)]at hf;exact fI c [.tmp 2] (by rw[←hf];exact eR)
     ·have e:k<l.length:=by exact eV
      have q:(k:Int)<(l.length:Int):=OR.2 e;rw[r e,At (by rw[a];simp)]at b;refine AH (ι:={m:Nat//m≤k∧((l.take m).any fun y=>Ab y.1 (l.getD k f0V).1)=false}) (fun m=>⟨[(0,.p FW d),(3,.p CA all),(4,.p (.int .i64) (i:Int)),(5,.p b5 l),(6,.p (.int .i64) (k:Int)),(7,.p (.int .i64) (m.1:Int))],[]⟩) (fun m=>k-m.1) ⟨0,NO _,rfl⟩ (eW []) (fun m=>?_)
      ·obtain⟨m,B,g⟩:=m;have s:=fun h:m<l.length=>NF l f0V (fun y=>Ab y.1 (l.getD k f0V).1) h;simp only;repeat'(first|exact trivial|refine eS rfl ?_|refine AB ?_|refine rX c ?_ ?_|refine rC ?_ ?_<;>intro a<;>try(cases a;done))
       ·have h1:(m:Int)<(k:Int):=a;exact⟨by exact eV,q⟩
       ·have f:m<k:=OR.1 (by assumption);have n:=s (by omega);have t:((l.take k).any fun y=>Ab y.1 (l.getD k f0V).1)=true:=by
         rw[gO];exact⟨l.getD m f0V,by
          rw[ABF];refine⟨m,by omega,?_⟩;simp[AS,show m<l.length by omega],a⟩
        rw[BY t]at b;rw[←b,BY (by decide)]at hf;exact fI c [.tmp 2] (by rw[←hf];exact eR)
       ·omega
       ·have f:m<k:=OR.1 (by assumption);have n:=s (by omega);refine⟨⟨m+1,by omega,?_⟩,by simp only;omega,AC [] rfl rfl ?_ ?_⟩
        ·rw[n,g];exact a
        ·exact eN
        ·exact eN
       ·exact q
       ·have f:m=k:=by omega
        subst f;rw[At (by rw[g];simp),BY a]at b;rw[←b,BY (by decide)]at hf;exact fI c [.tmp 2] (by rw[←hf];exact eR)
       ·have:=x;simp only[AO]at this;omega
       ·have f:m=k:=by omega
        subst f;rw[At (by rw[g];simp),At (by rw[a];simp)]at b;exact⟨⟨m+1,by omega,b⟩,by simp only;omega,eW []⟩
     ·omega
     ·have e:l.drop k=[]:=IF (f8.1 a);rw[e]at b;rw[←b,At (by simp[x7])]at hf;exact⟨⟨i+1,by omega,hf⟩,by simp only;omega,eW []⟩
   ·have e:d.drop i=[]:=IF (by exact eV);rw[e]at hf;exact fI c [.tmp 2] (by rw[←hf];first|exact eR|refine bW ?_;rfl)
end
section
attribute [local go_sem] ZN ZD Mb cs0
def Hk (s:ByteArray) (o:List ByteArray) (x:AI):List ByteArray:=if (DM x s).2=true then Ed o x.1 else o
def Fc (d:List AI) (s:ByteArray):List ByteArray:=d.foldl (Hk s) []
theorem nI (s:ByteArray) (d:List AI) (k:Nat):(Fc (d.take k) s).length≤k:=by
 have key:∀(l:List AI) (o:List ByteArray),(l.foldl (Hk s) o).length≤o.length+l.length:=by
  intro l;induction l with
  | nil=>intro o;simp
  | cons x l b =>
   intro o;have h1:=b (Hk s o x);have a:(Hk s o x).length≤o.length+1:=by
    unfold Hk;split
    ·exact MZ o x.1
    ·omega
   simp only[O5,OF];omega
 have h1:=key (d.take k) [];have a:=AAo k d;unfold Fc;simp only[AAW]at h1;omega
def Dh (d:List AI) (s:ByteArray):ByteArray×Bool:=if (Ax d (Fc d s)).length=1 then ((Ax d (Fc d s)).getD 0 ByteArray.empty,true) else (ByteArray.empty,false)
def ZV:Ad:={ ins:=[FW,T9],pre:=fun(d,_,_)=>Pt d∧List.length d≤256,out:=fun(d,s,_)=>[.p T9 (Dh d s).1,.p .bool (Dh d s).2] }
theorem iI:Ag Tryz.prog 104 ZV:=by
 refine fK [0,1,4,5,6,7,9,10,14,26,39] Tryz.func104 Tryz.ntmps104 (AF gX (AF RD (AF Ug AG))) ?_;rintro w0 O0 ⟨d,s,u⟩ c-⟨l,f⟩;have f:d.length≤256:=f;simp only[ZV,AM];repeat'(first|exact trivial|refine eS rfl ?_|refine AB ?_|refine rX c ?_ ?_|refine rC ?_ ?_<;>intro a<;>try(cases a;done))
 refine AH (ι:={i:Nat//i≤d.length}) (fun i=>⟨[(0,.p FW d),(1,.p T9 s),(6,.p CA (Fc (d.take i.1) s)),(7,.p (.int .i64) (i.1:Int))],[]⟩) (fun i=>d.length-i.1) ⟨0,NO _⟩ (AC [] rfl rfl ?_ ?_) (fun i=>?_)
 ·exact eN
 ·refine eM ?_;rfl
 ·obtain⟨i,hi⟩:=i;have hi:i≤d.length:=hi;have hn:=nI s d i;have hs:=fun h:i<d.length=>FA (Hk s) d d0 [] h;have j:∀e,Fc e s=e.foldl (Hk s) []:=fun _=>rfl;rw[←j,←j]at hs;unfold Hk at hs;simp only;repeat'(first|exact trivial|refine eS rfl ?_|refine AB ?_|refine rX c ?_ ?_|refine rC ?_ ?_<;>intro a<;>try(cases a;done))
  ·exact a
  ·exact⟨by assumption,by omega⟩
  ·exact eV
  ·have b:i<d.length:=by exact eV
   have e:=hs b;rw[BY a]at e;refine⟨⟨i+1,by omega⟩,by simp only;omega,AC [] rfl rfl ?_ ?_⟩
   ·exact eN
   ·simp only[e];exact eN
  ·exact eV
  ·have b:i<d.length:=by exact eV
   have e:=hs b;rw[At (by rw[a];simp)]at e;refine⟨⟨i+1,by omega⟩,by simp only;omega,AC [] rfl rfl ?_ ?_⟩
   ·exact eN
   ·simp only[e];exact eN
  ·exact⟨l,f,by omega⟩
  ·have b:d.take i=d:=An (by exact eV);rw[b]at a ⊢;have h1:Dh d s=(ByteArray.empty,false):=by
    unfold Dh;rw[At (by omega)]
   exact fI c [.tmp 4,.tmp 5] (by rw[h1];first|exact eR|refine bW ?_;first|rfl|exact⟨rfl,rfl⟩)
  ·have g:((Ax d (Fc (d.take i) s)).length:Int)=1:=by simpa using a
   have k:(0:Int)<((Ax d (Fc (d.take i) s)).length:Int):=by rw[g];decide
   exact k
  ·have b:d.take i=d:=An (by exact eV);rw[b]at a ⊢;have g:((Ax d (Fc d s)).length:Int)=1:=by simpa using a
   have h1:Dh d s=((Ax d (Fc d s)).getD 0 ByteArray.empty,true):=by
    unfold Dh;rw[BY (by omega)]
   exact fI c [.tmp 4,.tmp 5] (by rw[h1];exact eR)
end
section
attribute [local go_sem] ZN TB rE A1s
def KZ (l:List AP) (t:Int) (s:ByteArray) (o:List Int×Bool) (x:AI):List Int×Bool :=
 if (!(DM x s).2||!Lt l (BK l x.1) t)=true then o else (EO o.1 (l.getD (BK l (DM x s).1).toNat c0).2,true)
def FG (d:List AI) (l:List AP) (t:Int) (s:ByteArray):List Int×Bool:=d.foldl (KZ l t s) ((l.getD 0 c0).2,false)
def nJ (d:List AI) (l:List AP):Prop:=(∀x∈d,0≤BK l x.1)∧∀x∈d,∀y∈x.2.2,0≤BK l y.2
theorem iJ (s:ByteArray):∀(l:List (ByteArray×ByteArray)),(gW s l).2=true→∃y∈l,y.2=(gW s l).1
 | [],h=>by cases h
 | x :: l,h=>by
  simp only[gW]at h ⊢;split at h
  ·rename_i h1;rw[BY h1];exact⟨x,by simp,rfl⟩
  ·rename_i h1;rw[At h1];obtain⟨y,a,e⟩:=iJ s l h;exact⟨y,by simp[a],e⟩
theorem nJ.value {d:List AI} {l:List AP} (h:nJ d l) {x:AI} (b:x∈d) {s:ByteArray} (a:(DM x s).2=true):0≤BK l (DM x s).1:=by
 obtain⟨y,c,e⟩:=iJ s x.2.2 a;have:=h.2 x b y c;rw[e]at this;exact this
theorem A1N {l:List AP} (t:Int) (s:ByteArray) (x:AI) {o:List Int×Bool} (h:o.1.length≤64):(KZ l t s o x).1.length≤64:=by
 unfold KZ;split
 ·exact h
 ·exact TO (gY _ _) h
theorem Ur {l:List AP} (t:Int) (s:ByteArray):∀(d:List AI) {o:List Int×Bool},o.1.length≤64→(d.foldl (KZ l t s) o).1.length≤64
 | [],_,h=>h
 | x :: d,_,h=>by rw[O5];exact Ur t s d (A1N t s x h)
theorem iK (s:ByteArray):∀(l:List AP) (k:Nat),Mc s k l<((k+l.length:Nat):Int)
 | [],k=>by simp only[Mc];omega
 | x :: l,k=>by
  simp only[Mc];split
  ·simp only[OF];omega
  ·have:=iK s l (k+1);simp only[OF];omega
theorem SR (l:List AP) (s:ByteArray):BK l s<(l.length:Int):=by
 have:=iK s l 0;rw[AAS]at this;exact this
def A4G:Ad:={ ins:=[FW,KV,T3,T9],pre:=fun(d,l,t,_,_)=>nJ d l∧((0:Int)≤t∧t<(List.length l:Int))∧List.length l≤256∧(∀x∈(l:List AP),x.2.length≤64),out:=fun(d,l,t,s,_)=>[.p EM (FG d l t s).1,.p .bool (FG d l t s).2] }
theorem A1O:Ag Tryz.prog 95 A4G:=by
 refine fK [0,1,2,3,8,9,10,11,12,13,14,22,48] Tryz.func95 Tryz.ntmps95 (AF gX (AF Xg (AF rF (AF mU AG)))) ?_;rintro w0 O0 ⟨d,l,t,s,u⟩ f ⟨⟨A,G⟩,-⟩ ⟨r,j,n,w⟩;have n:l.length≤256:=n;have F:∀x∈(l:List AP),x.2.length≤100000:=fun x h=>TO (w x h) (by decide);have q:0<List.length l:=OR.1 (AC5 j.1 j.2);simp only[AO]at A;simp only[A4G,AM];repeat'(first|exact trivial|refine eS rfl ?_|refine AB ?_|refine rX f ?_ ?_|refine rC ?_ ?_<;>intro a<;>try(cases a;done))
 ·exact OR.2 q
 ·have m:FG d l t s=d.foldl (KZ l t s) ((l.getD 0 c0).2,false):=rfl;have y:(l.getD 0 c0).2.length≤64:=w _ (AD l c0 q);have z:(List.getD l 0 (ByteArray.empty,[])).2=(l.getD 0 c0).2:=rfl;rw[z];generalize (l.getD 0 c0).2=c at *;refine AH (ι:={i:Nat//i≤d.length}) (fun i=>⟨[(0,.p FW d),(1,.p KV l),(2,.p T3 t),(3,.p T9 s),(10,.p .bool ((d.take i.1).foldl (KZ l t s) (c,false)).2),(11,.p EM ((d.take i.1).foldl (KZ l t s) (c,false)).1),(12,.p (.int .i64) (i.1:Int))],[]⟩) (fun i=>d.length-i.1) ⟨0,NO _⟩ (AC [] rfl rfl ?_ ?_) (fun i=>?_)
  ·exact eN
  ·refine eM ?_;exact⟨rfl,rfl⟩
  ·obtain⟨i,hi⟩:=i;have hi:i≤d.length:=hi;have B:=Ur (l:=l) t s (d.take i) (o:=(c,false)) y;have hs:=fun h:i<d.length=>FA (KZ l t s) d d0 (c,false) h;have E:=fun h:i<d.length=>r.1 _ (AD d d0 h);have D:=fun(h:i<d.length) (g:(DM (d.getD i d0) s).2=true)=>r.value (AD d d0 h) g;have k:∀o x,KZ l t s o x=(if (!(DM x s).2||!Lt l (BK l x.1) t)=true then o else (EO o.1 (l.getD (BK l (DM x s).1).toNat c0).2,true)):=fun _ _=>rfl;generalize v:(d.take i).foldl (KZ l t s) (c,false)=o at *;simp only;repeat'(first|exact trivial|refine eS rfl ?_|refine AB ?_|refine rX f ?_ ?_|refine rC ?_ ?_<;>intro a<;>try(cases a;done))
   ·exact a
   ·have b:i<d.length:=OR.1 a;exact⟨fun _=>a,fun _=>⟨⟨E b,SR _ _⟩,j,F⟩⟩
   ·exact eV
   ·have b:i<d.length:=OR.1 (by assumption);have e:=hs b;rw[k,BY (by rw[AAi,bY,bY];exact a)]at e;refine⟨⟨i+1,by omega⟩,by simp only;omega,AC [] rfl rfl ?_ ?_⟩
    ·exact eN
    ·refine eM ?_;rw[e];exact⟨rfl,rfl⟩
   ·have b:i<d.length:=OR.1 (by assumption);exact⟨⟨D b a.1,SR _ _⟩,TO B (by decide)⟩
   ·exact eV
   ·have b:i<d.length:=OR.1 (by assumption);have e:=hs b;have C:¬(!(DM (d.getD i d0) s).2||!Lt l (BK l (d.getD i d0).1) t)=true:=by
     rw[AAi,bY,bY];rintro (h|h)
     ·rw[show (DM (d.getD i d0) s).2=true from a.1]at h;cases h
     ·rw[show Lt l (BK l (d.getD i d0).1) t=true from a.2]at h;cases h
    rw[k,At C]at e;refine⟨⟨i+1,by omega⟩,by simp only;omega,AC [] rfl rfl ?_ ?_⟩
    ·exact eN
    ·refine eM ?_;rw[e];exact⟨rfl,rfl⟩
   ·have b:d.take i=d:=An (f8.1 a);rw[b]at v;rw[v]at m;exact fI f [.tmp 8,.tmp 9] (by rw[m];exact eR)
end
theorem SS:∀ {l:List AI},MX l=0→∀x∈l,x.2.1.length≤256∧x.2.2.length≤256
 | [],_,x,a=>by cases a
 | y :: l,h,x,a=>by
  simp only[MX]at h;split at h
  ·cases h
  ·rename_i h1;rcases By.1 a with rfl|a
   ·exact⟨by omega,by omega⟩
   ·exact SS h x a
theorem LV {d:List AI} (h:A3 d=0):∀x∈d,x.2.1.length≤256∧x.2.2.length≤256:=by
 have h1:FF d=0:=by
  unfold A3 at h;split at h
  ·rename_i h1;exact absurd h h1
  ·rename_i h1;exact DO h1
 unfold FF at h1;split at h1
 ·cases h1
 ·exact SS h1
theorem Oi {d:List AI} (h:A3 d=0):∀x∈AL d,x.2.length≤64:=by
 intro x e;obtain⟨-,a,-⟩:=Aw h;obtain⟨b,c,rfl⟩:=Dg.1 e;exact QG (Oh a) b c
theorem iL {all:List ByteArray} {l:List FV}:∀ {r:List FV} {k:Nat},x7 all l k r=0→∀y∈r,AW all y.2=true
 | [],_,_,y,a=>by cases a
 | x :: r,k,h,y,a=>by
  simp only[x7]at h;split at h
  ·cases h
  ·split at h
   ·cases h
   ·split at h
    ·cases h
    ·rename_i b;rcases By.1 a with rfl|a
     ·simpa using b
     ·exact iL h y a
theorem Xp {all:List ByteArray}:∀ {l:List AI},ZU all l=0→∀x∈l,∀y∈x.2.2,AW all y.2=true
 | [],_,x,a=>by cases a
 | z :: l,h,x,a=>by
  simp only[ZU]at h;split at h
  ·rename_i h1;exact absurd h h1
  ·rename_i h1;rcases By.1 a with rfl|a
   ·exact iL (DO h1)
   ·exact Xp h x a
theorem QI {d:List AI} (h:A3 d=0) (b:LU d=0):nJ d (AL d) :=
 ⟨fun x a=>SQ h a,fun x a y c=>G9 h (Xp b x a y c)⟩
section
attribute [local go_sem] RN Ui nH ZV A4G
def LW (d:List AI) (l:List AP) (t:Nat) (s:ByteArray):Bool:=(FG d l (t:Int) s).2&&((FG d l (t:Int) s).1.length:Int)==0
def ZW (d:List AI) (l:List AP) (f:List ByteArray) (t:Nat):Bool:=f.any (LW d l t)
def Ip (d:List AI) (l:List AP) (f:List ByteArray) (n:Nat):Bool:=(List.range n).any (ZW d l f)
theorem iM (d:List AI) (l:List AP) (f:List ByteArray) (n:Nat):Ip d l f (n+1)=(Ip d l f n||ZW d l f n):=by
 unfold Ip;rw[AAd,AC4];simp
def Av (d:List AI):Int :=
 if (B4 d).2≠0 then (B4 d).2 else if 64<(BL d).length then 7 else if LU d≠0 then LU d else
 if ((BL d).all fun s=>(Dh d s).2)=false then 10 else if Ip d (B4 d).1 (BL d) (B4 d).1.length=true then 11 else 0
def TC:Ad:={ ins:=[FW],pre:=fun _=>True,out:=fun(d,_)=>[.p WV (Av d)] }
theorem Xq:Ag Tryz.prog 93 TC:=by
 refine fK [0,2,3,4,5,6,7,9,10,11,12,13,20,26,30,35,48,52,58,77] Tryz.func93 Tryz.ntmps93 (AF QH (AF Uj (AF A1M (AF iI (AF A1O AG))))) ?_;rintro w0 O0 ⟨d,u⟩ b - -;simp only[TC,AM];repeat'(first|exact trivial|refine eS rfl ?_|refine AB ?_|refine rX b ?_ ?_|refine rC ?_ ?_<;>intro a<;>try(cases a;done))
 ·have h1:Av d=(B4 d).2:=by unfold Av;rw[BY a]
  exact fI b [.tmp 2] (by rw[h1];exact eR)
 ·have c:(B4 d).2=0:=by simpa using a
  obtain⟨e,-,-⟩:=BU c;obtain⟨-,r,-⟩:=Aw e;exact⟨r,fun x L=>(LV e x L).2⟩
 ·have c:(B4 d).2=0:=by simpa using ‹((B4 d).2 != 0)=false›
  have h1:Av d=7:=by
   unfold Av;rw[At (by rw[c];simp),BY (by omega)]
  exact fI b [.tmp 2] (by rw[h1];exact eR)
 ·have c:(B4 d).2=0:=by simpa using ‹((B4 d).2 != 0)=false›
  obtain⟨e,-,-⟩:=BU c;exact(Aw e).2.1
 ·have c:(B4 d).2=0:=by simpa using ‹((B4 d).2 != 0)=false›
  have h1:Av d=LU d:=by
   unfold Av;rw[At (by rw[c];simp),At (by omega),BY a]
  exact fI b [.tmp 2] (by rw[h1];exact eR)
 ·have c:(B4 d).2=0:=by simpa using ‹((B4 d).2 != 0)=false›
  have v:LU d=0:=by simpa using a
  obtain⟨e,C,B⟩:=BU c;obtain⟨H,r,-⟩:=Aw e;have E:=QI e v;have K:=Oi e;have M:=rK e;have D:(AL d).length≤256:=by rw[Im];exact C
  have g:Av d=if ((BL d).all fun s=>(Dh d s).2)=false then 10 else if Ip d (B4 d).1 (BL d) (B4 d).1.length=true then 11 else 0:=by
   unfold Av;rw[At (by rw[c];simp),At (by omega),At (by rw[v];simp)]
  rw[B]at g ⊢;generalize AL d=l at *;generalize BL d=f at *;refine AH (ι:={i:Nat//i≤f.length∧((f.take i).all fun s=>(Dh d s).2)=true}) (fun i=>⟨[(0,.p FW d),(3,.p KV l),(5,.p CA f),(7,.p (.int .i64) (i.1:Int))],[]⟩) (fun i=>f.length-i.1) ⟨0,NO _,rfl⟩ (eW []) (fun i=>?_)
  ·obtain⟨i,hi,n⟩:=i;have G:=fun h:i<f.length=>Gi f ByteArray.empty (fun s=>(Dh d s).2) h;simp only;repeat'(first|exact trivial|refine eS rfl ?_|refine AB ?_|refine rX b ?_ ?_|refine rC ?_ ?_<;>intro a<;>try(cases a;done))
   ·exact⟨a,H,r⟩
   ·have j:i<f.length:=OR.1 (by assumption);have z:(f.all fun s=>(Dh d s).2)=false:=by
     rw[ACe];intro h;have:=IN.1 h _ (AD f ByteArray.empty j);rw[show (Dh d (f.getD i ByteArray.empty)).2=false from a]at this;cases this
    rw[BY z]at g;exact fI b [.tmp 2] (by rw[g];exact eR)
   ·omega
   ·have j:i<f.length:=OR.1 (by assumption);refine⟨⟨i+1,j,?_⟩,by simp only;omega,AC [] rfl rfl ?_ ?_⟩
    ·rw[G j,n];exact a
    ·exact eN
    ·exact eN
   ·have j:f.take i=f:=An (f8.1 a);rw[j]at n;rw[At (by rw[n];simp)]at g;refine AH (ι:={t:Nat//t≤l.length∧Ip d l f t=false}) (fun t=>⟨[(0,.p FW d),(3,.p KV l),(5,.p CA f),(10,.p (.int .i64) (t.1:Int))],[]⟩) (fun t=>l.length-t.1) ⟨0,NO _,rfl⟩ (eW []) (fun t=>?_)
    ·obtain⟨t,N,y⟩:=t;have J:=iM d l f t;simp only;repeat'(first|exact trivial|refine eS rfl ?_|refine AB ?_|refine rX b ?_ ?_|refine rC ?_ ?_<;>intro a<;>try(cases a;done))
     ·have w:t<l.length:=OR.1 a;refine AH (ι:={k:Nat//k≤f.length∧(f.take k).any (LW d l t)=false}) (fun k=>⟨[(0,.p FW d),(3,.p KV l),(5,.p CA f),(10,.p (.int .i64) (t:Int)),(11,.p (.int .i64) (k.1:Int))],[]⟩) (fun k=>f.length-k.1) ⟨0,NO _,rfl⟩ (eW []) (fun k=>?_)
      ·obtain⟨k,hk,o⟩:=k;have F:=fun h:k<f.length=>NF f ByteArray.empty (LW d l t) h;simp only;repeat'(first|exact trivial|refine eS rfl ?_|refine AB ?_|refine rX b ?_ ?_|refine rC ?_ ?_<;>intro a<;>try(cases a;done))
       ·exact⟨a,E,by assumption,D,K⟩
       ·have m:k<f.length:=OR.1 (by assumption);have q:LW d l t (f.getD k ByteArray.empty)=true:=by
         unfold LW;rw[As,AAq];exact a
        have A:Ip d l f l.length=true:=by
         unfold Ip;rw[gO];exact⟨t,oN.2 w,JZ f ByteArray.empty _ m q⟩
        rw[BY A]at g;exact fI b [.tmp 2] (by rw[g];exact eR)
       ·omega
       ·have m:k<f.length:=OR.1 (by assumption);have q:LW d l t (f.getD k ByteArray.empty)=false:=by
         rw[ACe];unfold LW;intro h;rw[As,AAq]at h;exact a h.1 h.2
        refine⟨⟨k+1,m,?_⟩,by simp only;omega,AC [] rfl rfl ?_ ?_⟩
        ·rw[F m,o,q];rfl
        ·exact eN
        ·exact eN
       ·omega
       ·have m:f.take k=f:=An (f8.1 a);rw[m]at o;refine⟨⟨t+1,w,?_⟩,by simp only;omega,AC [] rfl rfl ?_ ?_⟩
        ·rw[J,y];exact o
        ·exact eN
        ·exact eN
     ·have I:t=l.length:=by exact eV
      subst I;rw[At (by rw[y];simp)]at g;exact fI b [.tmp 2] (by rw[g];exact eR)
end
section
attribute [local go_sem] TC RN Ui ZV TB
abbrev A1P:=ByteArray×Int
theorem CC {d:List AI} (h:Av d=0):(B4 d).2=0∧(BL d).length≤64∧LU d=0:=by
 unfold Av at h;split at h
 ·rename_i h1;exact absurd h h1
 ·rename_i h1;split at h
  ·cases h
  ·rename_i b;split at h
   ·rename_i a;exact absurd h a
   ·rename_i a;exact⟨DO h1,by omega,DO a⟩
def QJ (d:List AI) (s:ByteArray):A1P:=(s,BK (AL d) (Dh d s).1)
def EY (d:List AI):List A1P×Int:=if Av d≠0 then ([],Av d) else ((BL d).map (QJ d),0)
theorem FP {α β:Type} (f:α→β) (l:List α) (d:α) {k:Nat} (h:k<l.length):(l.take (k+1)).map f=(l.take k).map f++[f (l.getD k d)]:=by
 rw[AX l d h,AAl];rfl
theorem ZX {α β:Type} (f:α→β) (l:List α) {k:Nat} (h:k≤l.length):((l.take k).map f).length=k:=by simp[h]
def RP:Ad:={ ins:=[FW],pre:=fun _=>True,out:=fun(d,_)=>[.p UZ (EY d).1,.p WV (EY d).2] }
theorem iO:Ag Tryz.prog 66 RP:=by
 refine fK [0,2,3,4,5,7,8,9,10,15,27] Tryz.func66 Tryz.ntmps66 (AF Xq (AF QH (AF Uj (AF iI (AF Xg AG))))) ?_;rintro w0 O0 ⟨d,u⟩ g - -;simp only[RP,AM];repeat'(first|exact trivial|refine eS rfl ?_|refine AB ?_|refine rX g ?_ ?_|refine rC ?_ ?_<;>intro a<;>try(cases a;done))
 ·have h1:EY d=([],Av d):=by unfold EY;rw[BY a]
  exact fI g [.tmp 2,.tmp 3] (by rw[h1];exact eR)
 ·have c:Av d=0:=by simpa using a
  obtain⟨k,-,-⟩:=CC c;obtain⟨b,-,-⟩:=BU k;exact⟨(Aw b).2.1,fun x r=>(LV b x r).2⟩
 ·have c:Av d=0:=by simpa using a
  obtain⟨k,s,-⟩:=CC c;obtain⟨b,-,m⟩:=BU k;obtain⟨q,l,-⟩:=Aw b;have o:EY d=((BL d).map (QJ d),0):=by unfold EY;rw[At (by rw[c];simp)]
  rw[m];generalize BL d=f at *;refine AH (ι:={i:Nat//i≤f.length}) (fun i=>⟨[(0,.p FW d),(5,.p KV (AL d)),(7,.p CA f),(8,.sr 49 A01 0 ((f.take i.1).map (QJ d)).length),(9,.p (.int .i64) (i.1:Int))],[(49,.arr 116 A01 ((f.take i.1).map (QJ d)))]⟩) (fun i=>f.length-i.1) ⟨0,NO _⟩ (eW [(49,.nil)]) (fun i=>?_)
  ·obtain⟨i,hi⟩:=i;have n:=ZX (QJ d) f hi;have hs:=fun h:i<f.length=>FP (QJ d) f ByteArray.empty h;simp only;repeat'(first|exact trivial|refine eS rfl ?_|refine AB ?_|refine rX g ?_ ?_|refine rC ?_ ?_<;>intro a<;>try(cases a;done))
   ·exact⟨a,q,l⟩
   ·refine⟨a,?_⟩;rw[n];simp only[AO];omega
   ·omega
   ·have j:i<f.length:=OR.1 a;have e:=hs j;refine⟨⟨i+1,j⟩,by simp only;omega,AC [(49,.nm 49)] rfl rfl ?_ ?_⟩
    ·simp only[e];refine eM ?_;rfl
    ·simp only[e];exact eN
   ·have j:f.take i=f:=An (f8.1 a);rw[j];refine Gg [49] ?_;exact fI g [.tmp 2,.tmp 3] (by rw[o];exact eR)
end
section
attribute [local go_sem] TC RN Ui A4G m6
def Sq (d:List AI) (l:List AP) (f:List ByteArray) (t:Nat) (n:Nat):List (Int×Int) :=
 ((List.range n).filter fun(i:Nat)=>(FG d l (t:Int) (f.getD i ByteArray.empty)).2).map fun(i:Nat)=>((i:Int),HT l (FG d l (t:Int) (f.getD i ByteArray.empty)).1)
def Ka (d:List AI) (l:List AP) (f:List ByteArray) (n:Nat):List (List (Int×Int)):=(List.range n).map fun t=>Sq d l f t f.length
def BB (d:List AI):List (List (Int×Int))×Int:=if Av d≠0 then ([],Av d) else (Ka d (AL d) (BL d) (AL d).length,0)
theorem Xr (d:List AI) (l:List AP) (f:List ByteArray) (t n:Nat):Sq d l f t (n+1)=Sq d l f t n++if (FG d l (t:Int) (f.getD n ByteArray.empty)).2=true then [((n:Int),HT l (FG d l (t:Int) (f.getD n ByteArray.empty)).1)] else []:=by
 unfold Sq;rw[AAd,ABr,AAl]
 congr 1
 rw[AAn,AC3];split<;>rfl
theorem A1Q (d:List AI) (l:List AP) (f:List ByteArray) (t n:Nat):(Sq d l f t n).length≤n:=by
 unfold Sq;rw[To];exact TO (AAK _ _) (by simp)
theorem nK (d:List AI) (l:List AP) (f:List ByteArray) (n:Nat):Ka d l f (n+1)=Ka d l f n++[Sq d l f n f.length]:=by simp[Ka,AAd]
theorem Xs (d:List AI) (l:List AP) (f:List ByteArray) (n:Nat):(Ka d l f n).length=n:=by simp[Ka]
theorem A1R {d:List AI} {l:List AP} (h:∀x∈l,x.2.length≤64) (t:Int) (s:ByteArray):(FG d l t s).1.length≤64:=by
 unfold FG;refine Ur t s d ?_;rw[AS];cases hh:l[0]? with
 | none=>simp
 | some x=>exact h x (AAB hh)
def Us:Ad:={ ins:=[FW],pre:=fun _=>True,out:=fun(d,_)=>[.p T45 (BB d).1,.p WV (BB d).2] }
theorem nL:Ag Tryz.prog 63 Us:=by
 refine fK [0,2,3,4,5,7,8,9,10,11,12,13,17,29,35,49] Tryz.func63 Tryz.ntmps63 (AF Xq (AF QH (AF Uj (AF A1O (AF A1B AG))))) ?_;rintro w0 O0 ⟨d,u⟩ e - -;simp only[Us,AM];repeat'(first|exact trivial|refine eS rfl ?_|refine AB ?_|refine rX e ?_ ?_|refine rC ?_ ?_<;>intro a<;>try(cases a;done))
 ·have h1:BB d=([],Av d):=by unfold BB;rw[BY a]
  exact fI e [.tmp 2,.tmp 3] (by rw[h1];exact eR)
 ·have h:Av d=0:=by simpa using a
  obtain⟨m,-,-⟩:=CC h;obtain⟨b,-,-⟩:=BU m;exact⟨(Aw b).2.1,fun x z=>(LV b x z).2⟩
 ·have h:Av d=0:=by simpa using a
  obtain⟨m,B,o⟩:=CC h;obtain⟨b,j,r⟩:=BU m;obtain⟨D,A,-⟩:=Aw b;have y:BB d=(Ka d (AL d) (BL d) (AL d).length,0):=by unfold BB;rw[At (by rw[h];simp)]
  have w:=QI b o;have n:=Oi b;have v:(AL d).length≤256:=by rw[Im];exact j
  rw[r];generalize AL d=l at *;generalize BL d=f at *;have q:=fun t s=>A1R (d:=d) n t s;refine AH (ι:={t:Nat//t≤l.length}) (fun t=>⟨[(0,.p FW d),(5,.p KV l),(7,.p CA f),(8,.sr 61 b4 0 (Ka d l f t.1).length),(9,.p (.int .i64) (t.1:Int))],[(61,.arr 82 b4 (Ka d l f t.1))]⟩) (fun t=>l.length-t.1) ⟨0,NO _⟩ (AC [(61,.nil)] rfl rfl ?_ ?_) (fun t=>?_)
  ·refine eM ?_;rfl
  ·refine eM ?_;rfl
  ·obtain⟨t,E⟩:=t;have j:=Xs d l f t;have hs:=nK d l f t;simp only;repeat'(first|exact trivial|refine eS rfl ?_|refine AB ?_|refine rX e ?_ ?_|refine rC ?_ ?_<;>intro a<;>try(cases a;done))
   ·refine AH (ι:={i:Nat//i≤f.length}) (fun i=>⟨[(0,.p FW d),(5,.p KV l),(7,.p CA f),(8,.sr 61 b4 0 (Ka d l f t).length),(9,.p (.int .i64) (t:Int)),(10,.sr 57 T87 0 (Sq d l f t i.1).length),(11,.p (.int .i64) (i.1:Int))],[(61,.arr 82 b4 (Ka d l f t)),(57,.arr 87 T87 (Sq d l f t i.1))]⟩) (fun i=>f.length-i.1) ⟨0,NO _⟩ (AC [(61,.nm 61),(57,.nil)] rfl rfl ?_ ?_) (fun i=>?_)
    ·refine eM ?_;rfl
    ·refine eM ?_;rfl
    ·obtain⟨i,hi⟩:=i;have C:=A1Q d l f t i;have c:=Xr d l f t i;simp only;repeat'(first|exact trivial|refine eS rfl ?_|refine AB ?_|refine rX e ?_ ?_|refine rC ?_ ?_<;>intro a<;>try(cases a;done))
     ·exact⟨a,w,by assumption,v,n⟩
     ·refine⟨TO (q _ _) (by decide),?_⟩;simp only[AO];omega
     ·omega
     ·have g:i<f.length:=OR.1 (by assumption);rw[BY a]at c;refine⟨⟨i+1,g⟩,by simp only;omega,AC [(61,.nm 61),(57,.nm 57)] rfl rfl ?_ ?_⟩
      ·simp only[c];exact eN
      ·simp only[c];exact eN
     ·omega
     ·have g:i<f.length:=OR.1 (by assumption);rw[At (by rw[a];simp),AAh]at c;refine⟨⟨i+1,g⟩,by simp only;omega,AC [(61,.nm 61),(57,.nm 57)] rfl rfl ?_ ?_⟩
      ·simp only[c];exact eN
      ·simp only[c];exact eN
     ·rw[j];simp only[AO];omega
     ·omega
     ·have k:t<l.length:=OR.1 (by assumption);have g:i=f.length:=by omega
      subst g;refine⟨⟨t+1,k⟩,by simp only;omega,AC [(61,.nm 61)] rfl rfl ?_ ?_⟩
      ·simp only[hs];exact eN
      ·simp only[hs];exact eN
   ·have k:t=l.length:=by omega
    subst k;refine Gg [61] ?_;exact fI e [.tmp 2,.tmp 3] (by rw[y];exact eR)
end
section
attribute [local go_sem] cs0
def Lu (l:List ByteArray) (n:Nat):List FV:=(List.range n).map fun k=>(l.getD (2*k) ByteArray.empty,l.getD (2*k+1) ByteArray.empty)
theorem Ut (l:List ByteArray) (n:Nat):Lu l (n+1)=Lu l n++[(l.getD (2*n) ByteArray.empty,l.getD (2*n+1) ByteArray.empty)]:=by simp[Lu,AAd]
theorem Xt (l:List ByteArray) (n:Nat):(Lu l n).length=n:=by simp[Lu]
def ZY (s:ByteArray):List ByteArray:=if Ab s ByteArray.empty=true then [] else [s]
def GU (n s:ByteArray) (l:List ByteArray):AI:=(n,ZY s,Lu l (l.length / 2))
def A1S:Ad:={ ins:=[T9,T9,CA],pre:=fun(_,_,l,_)=>List.length l≤1000,out:=fun(n,s,l,_)=>[.p u3 (GU n s l)] }
theorem A4H:Ag Tryz.prog 67 A1S:=by
 refine fK [0,1,2,6,7,8,12,20] Tryz.func67 Tryz.ntmps67 AG ?_;rintro w0 O0 ⟨n,s,l,u⟩ b-i;have i:l.length≤1000:=i;simp only[A1S,AM];repeat'(first|exact trivial|refine eS rfl ?_|refine AB ?_|refine rX b ?_ ?_|refine rC ?_ ?_<;>intro a<;>try(cases a;done))
 ·have f:=a;refine Gg [14] ?_;refine AH (ι:={k:Nat//2*k≤l.length}) (fun k=>⟨[(2,.p CA l),(6,.bp 6 [] 0),(7,.bp 7 [] 0),(8,.p (.int .i64) ((2*k.1:Nat):Int))],[(6,.box 111 true [.p T9 ByteArray.empty,.raw (.slice none 0 0),.raw (.slice none 0 0)]),(7,.box 111 true [.p T9 n,.p CA [s],.sr 36 mN 0 (Lu l k.1).length]),(36,.arr 154 mN (Lu l k.1))]⟩) (fun k=>l.length-2*k.1) ⟨0,NO _⟩ (AC [(6,.nm 6),(7,.nm 7),(36,.nil)] rfl rfl ?_ ?_) (fun k=>?_)
  ·first|exact eN|refine eM ?_
   exact⟨rfl,rfl⟩
  ·first|exact eN|refine eM ?_
  ·obtain⟨k,hk⟩:=k;have g:=Xt l k;have d:=Ut l k;simp only;repeat'(first|exact trivial|refine eS rfl ?_|refine AB ?_|refine rX b ?_ ?_|refine rC ?_ ?_<;>intro a<;>try(cases a;done))
   ·exact eV
   ·refine⟨by exact eV,⟨by exact eV,by exact eV⟩,⟨by exact eV,by exact eV⟩,?_⟩;rw[g];simp only[AO];exact eV
   ·exact eV
   ·have c:2*k+1<l.length:=by exact eV
    have e:((2*k:Nat):Int)+1=((2*k+1:Nat):Int):=by omega
    refine⟨⟨k+1,by omega⟩,by simp only;omega,AC [(6,.nm 6),(7,.nm 7),(36,.nm 36)] rfl rfl ?_ ?_⟩
    ·simp only[d];first|exact eN|refine eM ?_
     rw[e];rfl
    ·simp only[d];first|exact eN|refine eM ?_
     show ((2*k:Nat):Int)+2=((2*(k+1):Nat):Int);omega
   ·have c:k=l.length / 2:=by exact eV
    refine Gg [36] ?_;have h:GU n s l=(n,[s],Lu l k):=by
     unfold GU ZY;rw[←c,At (by rw[show Ab s ByteArray.empty=false from f];simp)]
    exact fI b [.cell 6 111] (by rw[h];exact eR)
 ·have f:=a;refine AH (ι:={k:Nat//2*k≤l.length}) (fun k=>⟨[(2,.p CA l),(6,.bp 6 [] 0),(7,.bp 7 [] 0),(8,.p (.int .i64) ((2*k.1:Nat):Int))],[(6,.box 111 true [.p T9 ByteArray.empty,.raw (.slice none 0 0),.raw (.slice none 0 0)]),(7,.box 111 true [.p T9 n,.p CA ([]:List ByteArray),.sr 36 mN 0 (Lu l k.1).length]),(36,.arr 154 mN (Lu l k.1))]⟩) (fun k=>l.length-2*k.1) ⟨0,NO _⟩ (AC [(6,.nm 6),(7,.nm 7),(36,.nil)] rfl rfl ?_ ?_) (fun k=>?_)
  ·first|exact eN|refine eM ?_
   exact⟨rfl,rfl⟩
  ·first|exact eN|refine eM ?_
  ·obtain⟨k,hk⟩:=k;have g:=Xt l k;have d:=Ut l k;simp only;repeat'(first|exact trivial|refine eS rfl ?_|refine AB ?_|refine rX b ?_ ?_|refine rC ?_ ?_<;>intro a<;>try(cases a;done))
   ·exact eV
   ·refine⟨by exact eV,⟨by exact eV,by exact eV⟩,⟨by exact eV,by exact eV⟩,?_⟩;rw[g];simp only[AO];exact eV
   ·exact eV
   ·have c:2*k+1<l.length:=by exact eV
    have e:((2*k:Nat):Int)+1=((2*k+1:Nat):Int):=by omega
    refine⟨⟨k+1,by omega⟩,by simp only;omega,AC [(6,.nm 6),(7,.nm 7),(36,.nm 36)] rfl rfl ?_ ?_⟩
    ·simp only[d];first|exact eN|refine eM ?_
     rw[e];rfl
    ·simp only[d];first|exact eN|refine eM ?_
     show ((2*k:Nat):Int)+2=((2*(k+1):Nat):Int);omega
   ·have c:k=l.length / 2:=by exact eV
    refine Gg [36] ?_;have h:GU n s l=(n,([]:List ByteArray),Lu l k):=by
     unfold GU ZY;rw[←c,BY (show Ab s ByteArray.empty=true from f)]
    exact fI b [.cell 6 111] (by rw[h];exact eR)
end
section
attribute [local go_sem] A1S cs0 cs1 cs2 cs3 cs4 cs5 cs6 cs7 cs8
def Iq:List AI:=[
 GU { data:=#[116,111,112] } { data:=#[] } [],
 GU { data:=#[108,105,115,116] } { data:=#[116,111,112] } [],
 GU { data:=#[99,111,110,115] } { data:=#[108,105,115,116] } [{ data:=#[70,73,82,83,84] },{ data:=#[116,111,112] },{ data:=#[82,69,83,84] },{ data:=#[108,105,115,116] }],
 GU { data:=#[110,117,108,108] } { data:=#[108,105,115,116] } [],
 GU { data:=#[100,108,105,115,116] } { data:=#[116,111,112] } [{ data:=#[76,73,83,84] },{ data:=#[108,105,115,116] },{ data:=#[76,65,83,84] },{ data:=#[108,105,115,116] }],
 GU { data:=#[105,110,100,101,120] } { data:=#[116,111,112] } [],
 GU { data:=#[104,97,110,100,108,101] } { data:=#[105,110,100,101,120] } [],
 GU { data:=#[101,118,101,110,116] } { data:=#[105,110,100,101,120] } [],
 GU { data:=#[101,110,116,105,116,121] } { data:=#[105,110,100,101,120] } [],
 GU { data:=#[114,101,108] } { data:=#[116,111,112] } [{ data:=#[76,65,66,69,76] },{ data:=#[104,97,110,100,108,101] }],
 GU { data:=#[113,101,113] } { data:=#[116,111,112] } [{ data:=#[72,73,71,72] },{ data:=#[104,97,110,100,108,101] },{ data:=#[76,79,87] },{ data:=#[104,97,110,100,108,101] }],
 GU { data:=#[115,101,109] } { data:=#[116,111,112] } [{ data:=#[84,79,80] },{ data:=#[104,97,110,100,108,101] },{ data:=#[73,78,68,69,88] },{ data:=#[105,110,100,101,120] },{ data:=#[82,69,76,83] },{ data:=#[100,108,105,115,116] },{ data:=#[67,79,78,83] },{ data:=#[100,108,105,115,116] }],
 GU { data:=#[115,105,103,110] } { data:=#[116,111,112] } [{ data:=#[83,69,77] },{ data:=#[115,101,109] },{ data:=#[65,82,71,83] },{ data:=#[108,105,115,116] }]]
def QK:Ad:={ ins:=[],pre:=fun _=>True,out:=fun _=>[.p FW Iq] }
theorem nM:Ag Tryz.prog 37 QK:=by
 refine fKP [0] [3,6,12,14,16,18,20] [] Tryz.func37 Tryz.ntmps37 (AF A4H AG) ?_;rintro w0 O0 u a - -;simp only[QK,AM];repeat'(first|exact trivial|refine eS rfl ?_|refine AB ?_|refine rX a ?_ ?_|refine rC ?_ ?_<;>intro b<;>try(cases b;done))
 exact fI a [.tmp 0] (by unfold Iq;exact eR)
end
section
attribute [local go_sem] Us RN A1K RP
abbrev HA:=ByteArray×List Int×List Int×List (Int×Int)
abbrev AJ:=List HA×List A1P
def Eg (l:List AP) (v:List (List (Int×Int))) (n:Nat):List HA:=(List.range n).map fun i=>((l.getD i c0).1,(l.getD i c0).2,Xo l (i:Int),v.getD i [])
theorem nN (l:List AP) (v:List (List (Int×Int))) (n:Nat):Eg l v (n+1)=Eg l v n++[((l.getD n c0).1,(l.getD n c0).2,Xo l (n:Int),v.getD n [])]:=by simp[Eg,AAd]
theorem Kb (l:List AP) (v:List (List (Int×Int))) (n:Nat):(Eg l v n).length=n:=by simp[Eg]
def Bm (d:List AI):AJ:=(Eg (AL d) (BB d).1 (AL d).length,(EY d).1)
def Ay (d:List AI):AJ×Int:=if (BB d).2≠0 then (([],[]),(BB d).2) else (Bm d,0)
def QL:Ad:={ ins:=[FW],pre:=fun _=>True,out:=fun(d,_)=>[.p GN (Ay d).1,.p WV (Ay d).2] }
theorem nP:Ag Tryz.prog 36 QL:=by
 refine fK [0,2,3,4,5,6,8,9,10,18,29] Tryz.func36 Tryz.ntmps36 (AF nL (AF QH (AF A4E (AF iO AG)))) ?_;rintro w0 O0 ⟨d,u⟩ b - -;simp only[QL,AM];repeat'(first|exact trivial|refine eS rfl ?_|refine AB ?_|refine rX b ?_ ?_|refine rC ?_ ?_<;>intro a<;>try(cases a;done))
 ·have h1:Ay d=(([],[]),(BB d).2):=by unfold Ay;rw[BY a]
  exact fI b [.cell 2 31,.tmp 3] (by rw[h1];exact eR)
 ·have c:(BB d).2=0:=by simpa using a
  have f:Av d=0:=by
   unfold BB at c;split at c
   ·rename_i h;exact absurd c h
   ·rename_i h;exact DO h
  obtain⟨t,x,w⟩:=CC f;obtain⟨j,m,k⟩:=BU t;have g:Ay d=(Bm d,0):=by unfold Ay;rw[At (by rw[c];simp)]
  have r:(BB d).1.length=(AL d).length:=by
   unfold BB;rw[At (by rw[f];simp)];exact Xs _ _ _ _
  have s:=Oi j;have o:(AL d).length≤256:=by rw[Im];exact m
  unfold Bm at g;rw[k];generalize AL d=l at *;generalize (BB d).1=v at *;refine AH (ι:={n:Nat//n≤l.length}) (fun n=>⟨[(0,.p FW d),(2,.bp 2 [] 0),(4,.p T45 v),(6,.p KV l),(8,.bp 8 [] 0),(9,.p (.int .i64) (n.1:Int))],[(2,.box 31 true [.raw (.slice none 0 0),.raw (.slice none 0 0)]),(8,.box 31 true [.sr 53 T84 0 (Eg l v n.1).length,.raw (.slice none 0 0)]),(53,.arr 84 T84 (Eg l v n.1))]⟩) (fun n=>l.length-n.1) ⟨0,NO _⟩ (AC [(2,.nm 2),(8,.nm 8),(53,.nil)] rfl rfl ?_ ?_) (fun n=>?_)
  ·refine eM ?_;exact⟨rfl,rfl⟩
  ·exact eN
  ·obtain⟨n,hn⟩:=n;have q:=Kb l v n;have i:=nN l v n;simp only;repeat'(first|exact trivial|refine eS rfl ?_|refine AB ?_|refine rX b ?_ ?_|refine rC ?_ ?_<;>intro a<;>try(cases a;done))
   ·refine⟨a,a,⟨a,o,s⟩,by rw[r];exact a,?_⟩;rw[q];simp only[AO];omega
   ·omega
   ·have e:n<l.length:=OR.1 a;refine⟨⟨n+1,e⟩,by simp only;omega,AC [(2,.nm 2),(8,.nm 8),(53,.nm 53)] rfl rfl ?_ ?_⟩
    ·simp only[i];exact eN
    ·simp only[i];exact eN
   ·have e:n=l.length:=by omega
    subst e;refine Gg [53] ?_;exact fI b [.cell 2 31,.tmp 3] (by rw[g];exact eR)
end
abbrev A9t:=Int×List (Int×Int)
def HV (f:List A9t):Bool:=decide (f.length≤12)&&f.all fun n=>decide (n.2.length≤12)
def Uu:Ad:={ ins:=[E9],pre:=fun _=>True,out:=fun(f,_)=>[.p .bool (HV f)] }
theorem A1T:Ag Tryz.prog 12 Uu:=by
 refine fK [0,1,2,3,7,12,22] Tryz.func12 Tryz.ntmps12 AG ?_;rintro w0 O0 ⟨l,u⟩ a e f;simp only[Uu,AM];repeat'(first|exact trivial|refine eS rfl ?_|refine AB ?_|refine rX a ?_ ?_|refine rC ?_ ?_<;>intro b<;>try(cases b;done))
 ·have h1:HV l=false:=by
   have h:¬(List.length l≤12):=by exact eV
   unfold HV;rw[ABS h];rfl
  exact fI a [.tmp 2] (by rw[h1];exact eR)
 ·refine AH (ι:={k:Nat//k≤l.length∧(l.take k).all (fun n=>decide (n.2.length≤12))=true}) (fun k=>⟨[(0,.p E9 l),(1,.bp 1 [] 0),(3,.p (.int .i64) (k.1:Int))],[(1,.box 25 true [.p Em l])]⟩) (fun k=>l.length-k.1) ⟨0,by simp⟩ (AC [(1,.nm 1)] rfl rfl ?_ ?_) (fun k=>?_)
  ·exact eN
  ·exact eN
  ·obtain⟨k,hk,c⟩:=k;repeat'(first|exact trivial|refine eS rfl ?_|refine AB ?_|refine rX a ?_ ?_|refine rC ?_ ?_<;>intro b<;>try(cases b;done))
   ·exact eV
   ·have h1:HV l=false:=by
     have hk:k<l.length:=by exact eV
     have h:=AD l (0,[]) hk;unfold HV;rw[AAP];right;rw[AAZ];exact⟨_,h,by simp only[IS];exact eV⟩
    exact fI a [.tmp 2] (by rw[h1];exact eR)
   ·exact eV
   ·have hk:k<l.length:=by exact eV
    refine⟨⟨k+1,by exact eV,?_⟩,by simp only;exact eV,AC [(1,.nm 1)] rfl rfl ?_ ?_⟩
    ·have h1:=AX l (0,[]) hk;have d:((l.take (k+1)).all fun n=>decide (n.2.length≤12))=_:=AB6 (fun x=>List.all x fun n=>decide (n.2.length≤12)) h1;rw[d,ABK,c];simp only[ABh,List.all_nil,Bool.and_true,AC6,IS];exact eV
    ·exact eN
    ·exact eN
   ·have h1:HV l=true:=by
     have hk:l.take k=l:=An (by exact eV);rw[hk]at c;unfold HV;rw[c,ABE (by exact eV)];rfl
    exact fI a [.tmp 2] (by rw[h1];exact eR)
def HB (n:Int) (seen:List (Int×Int)):List (Int×Int)→Int
 | []=>0
 | x :: r=>if x.1<0∨x.2<0∨n≤x.2 then 2 else if (seen.any fun y=>y.1==x.1)=true then 4 else HB n (seen++[x]) r
def Ir (l:List (Int×Int)) (n:Int):Int:=HB n [] l
def iP:Ad:={ ins:=[Cl,T3],pre:=fun _=>True,out:=fun(l,n,_)=>[.p WV (Ir l n)] }
theorem Oj (n:Int) (l:List (Int×Int)) {k:Nat} (h:k<l.length):HB n (l.take k) (l.drop k)=if (l.getD k (0,0)).1<0∨(l.getD k (0,0)).2<0∨n≤(l.getD k (0,0)).2 then 2 else if ((l.take k).any fun y=>y.1==(l.getD k (0,0)).1)=true then 4 else HB n (l.take (k+1)) (l.drop (k+1)):=by
 rw[AX l (0,0) h,ON h,AS,AT h];rfl
theorem Wj (l:List (Int×Int)) (f:Int) {k:Nat} (h:k<l.length):((l.take (k+1)).any fun y=>y.1==f)=((l.take k).any (fun y=>y.1==f)||((l.getD k (0,0)).1==f)):=by
 rw[AX l (0,0) h,AC4];simp
theorem A4I:Ag Tryz.prog 141 iP:=by
 refine fK [0,1,4,5,6,10,35,38,51] Tryz.func141 Tryz.ntmps141 AG ?_;rintro w0 O0 ⟨l,n,u⟩ b ⟨⟨h,-⟩,-⟩ -;simp only[AO]at h;simp only[iP,AM];repeat'(first|exact trivial|refine eS rfl ?_|refine AB ?_|refine rX b ?_ ?_|refine rC ?_ ?_<;>intro a<;>try(cases a;done))
 refine AH (ι:={k:Nat//k≤l.length∧HB n (l.take k) (l.drop k)=Ir l n}) (fun k=>⟨[(0,.p Cl l),(1,.p T3 n),(5,.p (.int .i64) (k.1:Int))],[]⟩) (fun k=>l.length-k.1) ⟨0,by simp[Ir]⟩ (AC [] rfl rfl ?_ ?_) (fun k=>?_)
 ·exact eN
 ·exact eN
 ·obtain⟨k,hk,c⟩:=k;repeat'(first|exact trivial|refine eS rfl ?_|refine AB ?_|refine rX b ?_ ?_|refine rC ?_ ?_<;>intro a<;>try(cases a;done))
  ·exact eV
  ·have hk:k<l.length:=by exact eV
   have h1:Ir l n=2:=by
    rw[←c,Oj n l hk,BY (by rw[←or_assoc];exact a)]
   exact fI b [.tmp 4] (by rw[h1];exact eR)
  ·have hk:k<l.length:=by exact eV
   have hn:¬((l.getD k (0,0)).1<0∨(l.getD k (0,0)).2<0∨n≤(l.getD k (0,0)).2):=by
    have:=a;generalize l.getD k (0,0)=x at this;exact eV
   rw[Oj n l hk,At hn]at c;refine AH (ι:={j:Nat//j≤k∧((l.take j).any fun y=>y.1==(l.getD k (0,0)).1)=false}) (fun j=>⟨[(0,.p Cl l),(1,.p T3 n),(5,.p (.int .i64) (k:Int)),(6,.p (.int .i64) (j.1:Int))],[]⟩) (fun j=>k-j.1) ⟨0,by simp⟩ (AC [] rfl rfl ?_ ?_) (fun j=>?_)
   ·exact eN
   ·exact eN
   ·obtain⟨j,i,f⟩:=j;repeat'(first|exact trivial|refine eS rfl ?_|refine AB ?_|refine rX b ?_ ?_|refine rC ?_ ?_<;>intro a<;>try(cases a;done))
    ·exact eV
    ·have e:j<l.length:=by exact eV
     have h1:Ir l n=4:=by
      have d:((l.take k).any fun y=>y.1==(l.getD k (0,0)).1)=true:=by
       rw[gO];refine⟨l.getD j (0,0),?_,by simpa using a⟩;rw[AS,AT e];exact ABF.2 ⟨j,by exact eV,rfl⟩
      rw[←c,BY d]
     exact fI b [.tmp 4] (by rw[h1];exact eR)
    ·exact eV
    ·have e:j<l.length:=by exact eV
     refine⟨⟨j+1,by exact eV,?_⟩,by simp only;exact eV,AC [] rfl rfl ?_ ?_⟩
     ·have d:=Wj l (l.getD k (0,0)).1 e;refine d.trans ?_;rw[f];simpa using a
     ·exact eN
     ·exact eN
    ·exact eV
    ·have g:j=k:=by exact eV
     subst g;refine⟨⟨j+1,by exact eV,?_⟩,by simp only;exact eV,AC [] rfl rfl ?_ ?_⟩
     ·rw[←c,At (by rw[f];simp)]
     ·exact eN
     ·exact eN
  ·have h1:Ir l n=0:=by
    have hk:l.length≤k:=by exact eV
    rw[←c,IF hk];rfl
   exact fI b [.tmp 4] (by rw[h1];exact eR)
end Go.Proofs.YtdapahgnpbehbaaGreat.Fw
