/- Contracts of the program's and the reference's functions, and the plain laws of what they compute: C1 C2 C9 C10 C11 C12 C13 C3 C4 C5 C6 C7 C8 C14 C15 C16 C17 C18 C19 C20 C21 C22 C23 N1 N2 C24 C25 N3 C26 C27 C28 C29 N4 C30 C31 C32 C33 C34 C35 R07a R07b R07c R07d R07e Sorted R07f R07g R07h R15c P8 C37 H1 D1 D4 N5 N6 N7 T4 G1. -/
import Derived.Test.YtdapahgnpbehbaaGreatJZJ
import Derived.Test.YtdapahgnpbehbaaGreatJZI
set_option linter.unusedVariables false
set_option linter.unusedSimpArgs false
namespace Go.Proofs.YtdapahgnpbehbaaGreat.Fw
open Go
attribute [local irreducible] Ev
attribute [local go_sem] bL AM List.toList_toArray B0 evG evK Wp E2 Kp Gz F5 GK O7 LZ CO DY Mr CZ Cr frz gX Gv DX BB Fx Bc AV.frz AV.frzs AV.drp AV.drps AV.names AV.namess aq Gx LY Ke Sy JY Bd Bk Jy Ek I3 El I5 I4 I6 Tt Oz HJ Kh Fz Ec Tu Qr y3 Jz I7 Lw K1 Dz Jb Ki Em Sz Ck Eo FC Qs I8 Qt Lx Jc Kj DL DA Fa D0 Hw Dh FD Di Ep F1 CZ Cq Ox Qq Nx Gm Ja JZ Kg Nc O4 Lz L3 L1 Km R6 L2 Kn Yv O6 O5 AV.trn AV.trns EY Cj Obj.trn KE b9 DN Dk DM Eq Cc FE Ah lk Hb Gw Ht bin gW Ws gZ R4 uM uN pfs AV.cells CJ Jw Oy Kl O3 CX Na Ty.cell1 I2 E8 Dy GJ LX Eh Kd Lv Qp FZ HI NV Sw Ts Lu Ka Yt aN R3 Nb DE Jx RV.flat Ty.flat Ty.size St.add upd del Be Value.oneCell' Lr Ty.dflt I1 PZ H7 Pg List.take_succ_cons List.take_zero List.length_cons bT bU Pf KB MG Ho KC zY F6 M2 M3 M4 M5 Q3 Q4 Ky JG UL Option.map_some Option.map_none Option.bind_some Option.getD_some Option.getD_none Option.isNone_none Option.isNone_some Bool.and_true Bool.true_and Bool.and_false Bool.false_and Bool.not_true Bool.not_false if_true if_false List.length_cons List.length_nil and_true true_and and_self List.all_cons List.all_nil List.append_nil List.nil_append List.cons_append List.getElem?_cons_zero List.getElem?_cons_succ List.getElem?_nil List.map_cons List.map_nil List.set_cons_zero List.set_cons_succ List.isEmpty_nil List.isEmpty_cons decide_true decide_false beq_self_eq_true bne_self_eq_false Nat.zero_add Nat.add_zero Nat.sub_zero Int.toNat_natCast Int.toNat_zero Int.toNat_one List.take_length List.length_append List.length_singleton true_or or_true or_self false_or or_false Ty.agg.injEq Ty.slice.injEq Ty.prod.injEq Ty.int.injEq Option.some.injEq beq_iff_eq Ls evMG evMQ z3 H9 MD B3 KA Ga Ni J8 H8 JH Kz Le OH Nj OI S2 ME Pb Pc J9 AY Am Op.operands Call.operands List.filterMap_cons List.filterMap_nil List.append_eq Bool.cond_false_right Bool.cond_true_left cond_true cond_false implies_true decide_eq_true_eq beq_true beq_false Bool.or_true Bool.or_false Bool.true_or Bool.false_or Option.isSome_some Array.empty_append List.append_toArray Fy Ms FF Hu Yu O2 F0 GU GT I9 Hv Kk Ly Wt gY Jt inB Ko F2 Gn J0 Aj bV List.drop_zero Dp IA ZH CU K4 Ba AV.fgt AV.fgts Obj.fgt Al Ak AY DQ Iz BM G0 List.any_cons List.any_nil iW bZ ZI b4 MJ Q9 qs List.flatMap_cons List.flatMap_nil List.cons_append tn ZK IG List.take_succ_cons List.drop_succ_cons ZO IJ Bw nJ M9 CB CT Ab FI Kx Bm FH D7 H5 JF GZ H6
attribute [local go_sem] Ju nN ty3 ty4 ty5 ty9 A3I A3J A3K A3L A3M A3N A3O A3P A3Q A3R A3S A3T A3U A3V A3W A3X A3Y A3Z A40 A41 A42 A43 A44 A45 A46 A47 A48 A49 A4a A4b A4c A4d A4e A4f A4g A4h A4i A4j A4k A4l A4m A4n A4o A4p A4q A4r A4s A4t A4u A4v A4w A4x A4y A4z A4A A4B A4C A4D A4E A4F A4G A4H A4I A4J A4K A4L A4M A4N A4O A4P A4Q A4R A4S A4T nP nQ nS nT nU nV nW nX nY nZ n4 n5 n6 n7 n8 n9 oA oB oC oD oE oG oH oI oJ oK oL oM oO oP oQ oT oU oV oW oX oY oZ o4 o5 o6 o7 o8 o9 pA pB pC pD pE pF pG pH pI pJ pK pL pM pN pO pP pQ pR pS pT pU pV pW pX pY pZ p4 p5 p6 p7 p8 p9 qA qB qC qD qE qF qG qH qI qJ qK qL qM qN qO qP qQ qR qS qT qU qV qW qX qY qZ q9 rA rE rF rG rH rI rJ rK rO rQ rR rS rT rU rV rW
set_option maxRecDepth 100000
set_option maxHeartbeats 4000000
section
def Jj (a b c:Int):Bool:=decide (a<=c)&&decide (c<=b)
def jE:Ae:={ ins:=[.int .u8],pre:=λ_=>True,out:=λ(c,_)=>[.p .bool (Jj 48 57 c)] }
attribute [local go_sem] jE
def jF:Ae:={ ins:=[.int .u8],pre:=λ_=>True,out:=λ(c,_)=>[.p .bool (Jj 65 90 c)] }
attribute [local go_sem] jF
def jG:Ae:={ ins:=[.int .u8],pre:=λ_=>True,out:=λ(c,_)=>[.p .bool (Jj 97 122 c)] }
attribute [local go_sem] jG
theorem cQ:Af Tryz.prog 176 jE:=by
 refine fK [0,2] Tryz.func176 Tryz.ntmps176 AH ?_;rintro w0 O0 ⟨c,u⟩ a - -;simp only[jE,AM];repeat'(first|exact trivial|refine eS rfl ?_|refine rX a ?_ ?_)
 exact fI a [.tmp 2] (by unfold Jj;exact eR)
theorem A0x:Af Tryz.prog 183 jF:=by
 refine fK [0,2] Tryz.func183 Tryz.ntmps183 AH ?_;rintro w0 O0 ⟨c,u⟩ a - -;simp only[jF,AM];repeat'(first|exact trivial|refine eS rfl ?_|refine rX a ?_ ?_)
 exact fI a [.tmp 2] (by unfold Jj;exact eR)
theorem A0y:Af Tryz.prog 184 jG:=by
 refine fK [0,2] Tryz.func184 Tryz.ntmps184 AH ?_;rintro w0 O0 ⟨c,u⟩ a - -;simp only[jG,AM];repeat'(first|exact trivial|refine eS rfl ?_|refine rX a ?_ ?_)
 exact fI a [.tmp 2] (by unfold Jj;exact eR)
def Uq (c:Int) (big:Bool):Bool:=Jj 48 57 c||c==45||big&&Jj 65 90 c||!big&&Jj 97 122 c
def A0z:Ae:={ ins:=[.int .u8,.bool],pre:=λ_=>True,out:=λ(c,b,_)=>[.p .bool (Uq c b)] }
attribute [local go_sem] A0z
theorem A4V:Af Tryz.prog 177 A0z:=by
 refine fK [0,1,4] Tryz.func177 Tryz.ntmps177 (AF cQ (AF A0x (AF A0y AH))) ?_;rintro w0 O0 ⟨c,b,u⟩ a - -;simp only[A0z,AM];repeat'(first|exact trivial|refine eS rfl ?_|refine rX a ?_ ?_)
 exact fI a [.tmp 4] (by unfold Uq;exact eR)
abbrev chr (s:ByteArray) (i:Nat):Int:=((s.data.getD i 0).toNat:Int)
def RF (s:ByteArray):Bool:=decide ((s.size:Int)<1)||decide (32<(s.size:Int))||Jj 48 57 (chr s 0)||chr s 0==45
def Et (s:ByteArray) (big:Bool):Bool:=!RF s&&(List.range s.size).all λi=>Uq (chr s i) big
def jH:Ae:={ ins:=[T9,.bool],pre:=λ_=>True,out:=λ(s,b,_)=>[.p .bool (Et s b)] }
attribute [local go_sem] jH
theorem cR:Af Tryz.prog 165 jH:=by
 refine fK [0,1,4,5,23,27,35] Tryz.func165 Tryz.ntmps165 (AF cQ (AF A4V AH)) ?_;rintro w0 O0 ⟨s,b,u⟩ d - -;simp only[jH,AM];repeat'(first|exact trivial|refine eS rfl ?_|refine rX d ?_ ?_|refine rC ?_ ?_<;>intro a<;>try(cases a;done))
 ·constructor
  ·intro h;simp only[dO,AB3,To]at h;have:1<=(s.size:Int):=by omega
   exact this
  ·intro h;simp only[dO,AB3,To]at h;have:1<=(s.size:Int):=by omega
   exact this
 ·have h1:RF s=true:=by
   unfold RF chr;simp only[AAz,IS,AAN];exact a
  have c:Et s b=false:=by unfold Et;rw[h1];rfl
  exact fI d [.tmp 4] (by rw[c];exact eR)
 ·have h1:RF s=false:=by
   unfold RF chr;simp only[AB3,To,ABy];exact⟨⟨⟨by omega,by omega⟩,a.1.2⟩,a.2⟩
  have g:s.size<=32:=by omega
  refine AG (ι:={k:Nat//k<=s.size/\((List.range k).all λi=>Uq (chr s i) b)=true}) (λk=>⟨[(0,.p T9 s),(1,.p .bool b),(5,.p (.int .i64) (k.1:Int))],[]⟩) (λk=>s.size-k.1) ⟨0,by simp⟩ (eW []) (λk=>?_)
  ·obtain⟨k,hk,f⟩:=k;repeat'(first|exact trivial|refine eS rfl ?_|refine AB ?_|refine rX d ?_ ?_|refine rC ?_ ?_<;>intro a<;>try(cases a;done))
   ·exact a
   ·have e:k<s.size:=by omega
    have c:Et s b=false:=by
     unfold Et;rw[ABh];refine .inr (ACF.2 λh=>?_);have:=IN.1 h k (oR.2 e);rw[show Uq (chr s k) b=false from a]at this;cases this
    exact fI d [.tmp 4] (by rw[c];exact eR)
   ·omega
   ·have e:k<s.size:=by omega
    refine⟨⟨k+1,by omega,?_⟩,by simp only;omega,AC [] rfl rfl ?_ ?_⟩
    ·rw[AAq,ACb,f];rw[ACx,ABH,List.all_nil,Bool.and_true];exact a
    ·exact eN
    ·exact eN
   ·have e:k=s.size:=by omega
    subst e;have c:Et s b=true:=by unfold Et;rw[h1,f];rfl
    exact fI d [.tmp 4] (by rw[c];exact eR)
def A0A:Ae:={ ins:=[T9],pre:=λ_=>True,out:=λ(s,_)=>[.p .bool (Et s false)] }
def Ur:Ae:={ ins:=[T9],pre:=λ_=>True,out:=λ(s,_)=>[.p .bool (Et s true)] }
theorem A4W:Af Tryz.prog 151 A0A:=by
 refine fK [0,2] Tryz.func151 Tryz.ntmps151 (AF cR AH) ?_;rintro w0 O0 ⟨s,u⟩ a - -;simp only[A0A,AM];repeat'(first|exact trivial|refine eS rfl ?_|refine rX a ?_ ?_)
 exact fI a [.tmp 2]
theorem jI:Af Tryz.prog 150 Ur:=by
 refine fK [0,2] Tryz.func150 Tryz.ntmps150 (AF cR AH) ?_;rintro w0 O0 ⟨s,u⟩ a - -;simp only[Ur,AM];repeat'(first|exact trivial|refine eS rfl ?_|refine rX a ?_ ?_)
 exact fI a [.tmp 2]
end
section
theorem NA {α:Type} (l:List α) (d:α) (p:α->Bool) {k:Nat} (h:k<l.length):(l.take (k+1)).any p=((l.take k).any p||p (l.getD k d)):=by
 rw[AW l d h,ACv];simp
theorem JM {α:Type} (l:List α) (d:α) (p:α->Bool) {k:Nat} (h:k<l.length) (hp:p (l.getD k d)=true):l.any p=true :=
 iS.2 ⟨_,AD l d h,hp⟩
def AX (l:List ByteArray) (s:ByteArray):Bool:=l.any λx=>Ac x s
def Jk:Ae:={ ins:=[B9,T9],pre:=λ_=>True,out:=λ(l,n,_)=>[.p .bool (AX l n)],lend:=true }
attribute [local go_sem] Jk
theorem G2:Af Tryz.prog 131 Jk:=by
 refine fK [0,1,4,5,9,17] Tryz.func131 Tryz.ntmps131 AH ?_;rintro w0 O0 ⟨l,n,u⟩ a ⟨⟨e,-⟩,-⟩ -;simp only[AO]at e;simp only[Jk,AM];repeat'(first|exact trivial|refine eS rfl ?_|refine rX a ?_ ?_)
 refine AG (ι:={k:Nat//k<=l.length/\(l.take k).any (λx=>Ac x n)=false}) (λk=>⟨[(0,.p B9 l),(1,.p T9 n),(5,.p (.int .i64) (k.1:Int))],[]⟩) (λk=>l.length-k.1) ⟨0,by simp⟩ (eW []) (λk=>?_)
 ·obtain⟨k,hk,c⟩:=k;repeat'(first|exact trivial|refine eS rfl ?_|refine AB ?_|refine rX a ?_ ?_|refine rC ?_ ?_<;>intro b<;>try(cases b;done))
  ·exact eV
  ·have d:k<l.length:=by exact eV
   have h1:AX l n=true:=JM l ByteArray.empty _ d b;exact fI a [.tmp 4] (by rw[h1];exact eR)
  ·exact eV
  ·have d:k<l.length:=by exact eV
   refine⟨⟨k+1,by exact eV,?_⟩,by simp only;exact eV,AC [] rfl rfl ?_ ?_⟩
   ·rw[NA l ByteArray.empty _ d,c];exact b
   ·exact eN
   ·exact eN
  ·have hk:l.take k=l:=An (by exact eV);rw[hk]at c;have h1:AX l n=false:=c;exact fI a [.tmp 4] (by rw[h1];exact eR)
def atF (l:List ByteArray) (s:ByteArray):Nat:=(l.takeWhile λx=>HW x s).length
theorem A0C {α:Type} (p:α->Bool) (d:α):∀(l:List α) (k:Nat),k<=(l.takeWhile p).length->((k<l.length/\p (l.getD k d)=true)↔k+1<=(l.takeWhile p).length)
 | [],k,h=>by simp
 | x :: l,k,h=>by
  by_cases a:p x=true
  ·rw[List.takeWhile_cons,BY a]at h ⊢;cases k with
   | zero=>simp[a]
   | succ k =>
    have:=A0C p d l k (by simpa using h);simpa using this
  ·rw[List.takeWhile_cons,At a]at h ⊢;have hk:k=0:=by simpa using h
   subst hk;simp[a]
theorem A6k {α:Type} (p:α->Bool) (l:List α):(l.takeWhile p).length<=l.length:=(List.takeWhile_sublist p).length_le
def Ea (l:List ByteArray) (s:ByteArray):List ByteArray :=
 if (decide (atF l s<l.length)&&Ac (l.getD (atF l s) ByteArray.empty) s)=true then l else l.take (atF l s)++[s]++l.drop (atF l s)
def ZQ:Ae:={ ins:=[B9,T9],pre:=λ(l,_,_)=>List.length l<=100000,out:=λ(l,n,_)=>[.p B9 (Ea l n)] }
attribute [local go_sem] ZQ
theorem RG:Af Tryz.prog 122 ZQ:=by
 refine fK [0,1,4,5,6,18,32] Tryz.func122 Tryz.ntmps122 AH ?_;rintro w0 O0 ⟨l,n,u⟩ c-m;have m:l.length<=100000:=m;simp only[ZQ,AM];repeat'(first|exact trivial|refine eS rfl ?_|refine rX c ?_ ?_)
 refine AG (ι:={k:Nat//k<=atF l n}) (λk=>⟨[(0,.p B9 l),(1,.p T9 n),(5,.raw (.slice none 0 0)),(6,.p (.int .i64) (k.1:Int))],[]⟩) (λk=>l.length-k.1) ⟨0,by simp⟩ (eW []) (λk=>?_)
 ·obtain⟨k,hk⟩:=k;have d:=A6k (λx=>HW x n) l;have i:=A0C (λx=>HW x n) ByteArray.empty l k hk;simp only;repeat'(first|exact trivial|refine eS rfl ?_|refine AB ?_|refine rX c ?_ ?_|refine rC ?_ ?_<;>intro a<;>try(cases a;done))
  ·exact λh=>h
  ·have h1:k<l.length/\HW (l.getD k ByteArray.empty) n=true:=⟨by exact eV,a.2⟩;exact eV
  ·have h1:k<l.length/\HW (l.getD k ByteArray.empty) n=true:=⟨by exact eV,a.2⟩;exact⟨⟨k+1,i.1 h1⟩,by simp only;omega,eW []⟩
  ·exact λh=>h
  ·rename_i f;have g:k=atF l n:=by
    refine ACr hk (Nat.le_of_not_lt λh=>?_);have:=i.2 h;rw[f (No.2 this.1)]at this;cases this.2
   have e:Ea l n=l:=by
    unfold Ea;rw[<-g,BY];rw[As,IS];exact⟨No.1 a.1,a.2⟩
   exact fI c [.tmp 4] (by rw[e];exact eR)
  ·have j:=AAL k l;have b:k<=l.length:=Qo hk d;simp only[AO];exact⟨aT.2 b,by dsimp only[Ty.den]at *;omega⟩
  ·have j:=AAL k l;have b:k<=l.length:=Qo hk d;simp only[AO];dsimp only[Ty.den]at *;omega
  ·have j:=AAL k l;have b:k<=l.length:=Qo hk d;have q:(l.drop k).length<=l.length:=by rw[AAQ];omega
   simp only[AO];exact⟨aT.2 b,by dsimp only[Ty.den]at *;omega⟩
  ·rename_i f;have g:k=atF l n:=by
    refine ACr hk (Nat.le_of_not_lt λh=>?_);have:=i.2 h;rw[f (No.2 this.1)]at this;cases this.2
   have e:Ea l n=l.take k++[n]++l.drop k:=by
    unfold Ea;rw[<-g,At];rw[As,IS];intro h;rw[a (No.2 h.1)]at h;cases h.2
   have b:k<=l.length:=Qo hk d;have o:(l.take k).length+1+(l.drop k).length=(l.take k++[n]++l.drop k).length:=by simp only[GO,aS]
   rw[o,<-e];refine Gc [38] ?_;exact fI c [.tmp 4]
end
section
def GM (b:List Int) (i:Int):Int:=if i<b.length then b.getD i.toNat 0 else 0
def cS:Ae:={ ins:=[EL,T3],pre:=λ(_,i,_)=>(0:Int)<=i,out:=λ(b,i,_)=>[.p Pn (GM b i)],lend:=true }
attribute [local go_sem] cS
theorem r9:Af Tryz.prog 142 cS:=by
 refine fK [0,1,4,8] Tryz.func142 Tryz.ntmps142 AH ?_;rintro w0 O0 ⟨b,i,u⟩ c-hi;simp only[cS,AM];repeat'(first|exact trivial|refine eS rfl ?_|refine rX c ?_ ?_|refine rC ?_ ?_<;>intro a<;>try(cases a;done))
 ·exact⟨hi,a⟩
 ·have h1:GM b i=b.getD i.toNat 0:=by unfold GM;rw[BY a]
  exact fI c [.tmp 4] (by rw[h1];exact eR)
 ·have h1:GM b i=0:=by unfold GM;rw[At (ABC.2 a)]
  exact fI c [.tmp 4] (by rw[h1];exact eR)
def Cf (b:List Int):Nat->Nat
 | 0=>0
 | n+1=>if b.getD n 0=0 then Cf b n else n+1
def BJ (b:List Int):List Int:=b.take (Cf b b.length)
theorem Us (b:List Int):∀n,Cf b n<=n
 | 0=>NO _
 | n+1=>by
  unfold Cf;split
  ·exact Nat.le_succ_of_le (Us b n)
  ·exact NO _
def K8:Ae:={ ins:=[EL],pre:=λ(b,_)=>List.length b<=100000,out:=λ(b,_)=>[.p EL (BJ b)] }
attribute [local go_sem] K8
theorem NB:Af Tryz.prog 124 K8:=by
 refine fK [0,2,3,15] Tryz.func124 Tryz.ntmps124 AH ?_;rintro w0 O0 ⟨b,u⟩ d-f;have f:b.length<=100000:=f;simp only[K8,AM];repeat'(first|exact trivial|refine eS rfl ?_|refine rX d ?_ ?_)
 refine AG (ι:={n:Nat//n<=b.length/\Cf b n=Cf b b.length}) (λn=>⟨[(0,.p EL b),(3,.p (.int .i64) (n.1:Int))],[]⟩) (λn=>n.1) ⟨b.length,NO _,rfl⟩ (eW []) (λn=>?_)
 ·obtain⟨n,hn,g⟩:=n;simp only;repeat'(first|refine eS rfl ?_|refine AB ?_|refine rX d ?_ ?_|refine rC ?_ ?_<;>intro c<;>try(cases c;done))
  ·constructor
   ·exact eV
   ·intro h;refine⟨?_,?_⟩<;>exact eV
  ·exact eV
  ·obtain⟨h1,a⟩:=c;obtain⟨m,rfl⟩:∃m,n=m+1:=⟨n-1,by omega⟩;have e:(((m+1:Nat):Int)-1)=(m:Int):=by omega
   rw[e]at a;have a:b.getD m 0=0:=a;have j:Cf b m=Cf b b.length:=by
    rw[<-g];show _=if b.getD m 0=0 then Cf b m else m+1
    rw[BY a]
   refine⟨⟨m,by omega,j⟩,by simp,AC [] rfl rfl ?_ ?_⟩
   ·exact eN
   ·simp only[e];exact eN
  ·have k:=AAL n b;simp only[AO];exact⟨aT.2 hn,by dsimp only[Ty.den]at *;omega⟩
  ·have i:Cf b n=n:=by
    cases n with
    | zero=>rfl
    | succ m =>
     have e:(((m+1:Nat):Int)-1)=(m:Int):=by omega
     rw[e]at c;have a:=c (by omega);have a:¬b.getD m 0=0:=a;show (if b.getD m 0=0 then Cf b m else m+1)=m+1;rw[At a]
   have h1:BJ b=b.take n:=by unfold BJ;rw[<-g,i]
   rw[<-h1];refine Gc [18] ?_;exact fI d [.tmp 2]
end
section
attribute [local go_sem] cS K8
def A0D (w:Int) (r:Int):Bool:=CA .and .u64 (Wr .u64 w r) 1==1
def RH (b:List Int) (i:Int):Bool:=if (decide (i<0)||decide ((b.length:Int)<=i.tdiv 64))=true then false else A0D (b.getD (i.tdiv 64).toNat 0) (i.tmod 64)
def A0E:Ae:={ ins:=[EL,T3],pre:=λ_=>True,out:=λ(b,i,_)=>[.p .bool (RH b i)],lend:=true }
theorem A74 {w:Int} (h0:0<=w) (r:Int):0<=Wr .u64 w r/\Wr .u64 w r<=w:=by
 unfold Wr;have hp:(0:Int)<2 ^ (min r.toNat IntKind.u64.bits):=Int.pow_pos (by decide);rw[ACm _ (ADk hp)];exact⟨Int.ediv_nonneg h0 (ADk hp),Int.ediv_le_self _ h0⟩
theorem A0F:Af Tryz.prog 135 A0E:=by
 refine fK [0,1,4,13] Tryz.func135 Tryz.ntmps135 AH ?_;rintro w0 O0 ⟨b,i,u⟩ d ⟨⟨m,k⟩,e,-⟩ -;have e:LW .i64 i:=e;rw[Ky]at e;have j:0<=i->Int.tdiv i 64=i / 64/\Int.tmod i 64=i % 64:=λh=>⟨AB5 h,ABY h⟩;simp only[A0E,AM];repeat'(first|exact trivial|refine eS rfl ?_|refine rX d ?_ ?_|refine rC ?_ ?_<;>intro c<;>try(cases c;done))
 ·intro h;have h0:0<=i:=by simpa using h
  obtain⟨a,g⟩:=j h0;rw[a];refine⟨by decide,?_,?_⟩<;>exact eV
 ·have h1:RH b i=false:=by
   unfold RH;rw[BY];rw[AAz,IS,IS];exact c
  exact fI d [.tmp 4] (by rw[h1];exact eR)
 ·obtain⟨h0,l⟩:=c;obtain⟨a,g⟩:=j h0;rw[a]at l;have f:LW .u64 (b.getD (i / 64).toNat 0):=k _ (AD b 0 (by exact eV));rw[JG]at f;have hs:=A74 f.1 (i % 64);rw[a,g];refine⟨⟨by decide,by exact eV,by exact eV⟩,⟨by exact eV,by exact eV⟩,⟨by decide,by exact eV,by exact eV⟩,⟨by exact eV,by exact eV⟩,by exact eV,hs.1,ABJ hs.2 f.2⟩
 ·have h1:RH b i=A0D (b.getD (i.tdiv 64).toNat 0) (i.tmod 64):=by
   unfold RH;rw[At];rw[AAz,IS,IS];rintro (h|h)<;>omega
  exact fI d [.tmp 4] (by rw[h1];unfold A0D;exact eR)
end
section
attribute [local go_sem] cS K8
def Gd (op:BinOp) (a b:List Int) (n:Nat):List Int:=(List.range n).map λi=>CA op .u64 (a.getD i 0) (GM b (i:Int))
theorem Eu (op:BinOp) (a b:List Int) (n:Nat):(Gd op a b n).length=n:=by simp[Gd]
theorem Xm (op:BinOp) (a b:List Int) (n:Nat):Gd op a b (n+1)=Gd op a b n++[CA op .u64 (a.getD n 0) (GM b (n:Int))]:=by simp[Gd,AAq]
def EM (a b:List Int):List Int:=BJ (Gd .and a b a.length)
def A0G:Ae:={ ins:=[EL,EL],pre:=λ(a,_,_)=>List.length a<=100000,out:=λ(a,b,_)=>[.p EL (EM a b)] }
theorem jJ:Af Tryz.prog 112 A0G:=by
 refine fK [0,1,4,5,6,10] Tryz.func112 Tryz.ntmps112 (AF r9 (AF NB AH)) ?_;rintro w0 O0 ⟨a,b,u⟩ c-ha;have ha:a.length<=100000:=ha;simp only[A0G,AM];repeat'(first|exact trivial|refine eS rfl ?_|refine rX c ?_ ?_)
 refine AG (ι:={n:Nat//n<=a.length}) (λn=>⟨[(0,.p EL a),(1,.p EL b),(5,.sr 23 Pn 0 n.1),(6,.p (.int .i64) (n.1:Int))],[(23,.arr 155 Pn (Gd .and a b n.1))]⟩) (λn=>a.length-n.1) ⟨0,Is _⟩ (AC [(23,.nil)] rfl rfl ?_ ?_) (λn=>?_)
 ·refine eM ?_;rfl
 ·exact eN
 ·obtain⟨n,hn⟩:=n;have g:=Eu .and a b n;have hs:=Xm .and a b n;simp only;repeat'(first|exact trivial|refine eS rfl ?_|refine AB ?_|refine rX c ?_ ?_|refine rC ?_ ?_<;>intro d<;>try(cases d;done))
  ·refine⟨d,?_⟩;simp only[AO];dsimp only[Ty.den]at *;omega
  ·exact eV
  ·have e:n<a.length:=by exact eV
   refine⟨⟨n+1,by omega⟩,by simp only;omega,AC [(23,.nm 23)] rfl rfl ?_ ?_⟩
   ·simp only[hs];refine eM ?_;rw[An (by rw[g];exact NO _)]
   ·exact eN
  ·have e:n=a.length:=by exact eV
   subst e;refine Gc [23] ?_;have f:(Gd .and a b a.length).take a.length=Gd .and a b a.length:=An (by rw[Eu];exact NO _);repeat'(first|refine eS rfl ?_|refine rX c ?_ ?_)
   ·rw[f,Eu];exact ha
   ·rw[f];exact fI c [.tmp 4] (by unfold EM;exact eR)
def RI (a b:List Int):List Int:=BJ (Gd .andNot a b a.length)
def jK:Ae:={ ins:=[EL,EL],pre:=λ(a,_,_)=>List.length a<=100000,out:=λ(a,b,_)=>[.p EL (RI a b)] }
attribute [local go_sem] jK
theorem A0H:Af Tryz.prog 109 jK:=by
 refine fK [0,1,4,5,6,10] Tryz.func109 Tryz.ntmps109 (AF r9 (AF NB AH)) ?_;rintro w0 O0 ⟨a,b,u⟩ c-ha;have ha:a.length<=100000:=ha;simp only[jK,AM];repeat'(first|exact trivial|refine eS rfl ?_|refine rX c ?_ ?_)
 refine AG (ι:={n:Nat//n<=a.length}) (λn=>⟨[(0,.p EL a),(1,.p EL b),(5,.sr 23 Pn 0 n.1),(6,.p (.int .i64) (n.1:Int))],[(23,.arr 155 Pn (Gd .andNot a b n.1))]⟩) (λn=>a.length-n.1) ⟨0,Is _⟩ (AC [(23,.nil)] rfl rfl ?_ ?_) (λn=>?_)
 ·refine eM ?_;rfl
 ·exact eN
 ·obtain⟨n,hn⟩:=n;have g:=Eu .andNot a b n;have hs:=Xm .andNot a b n;simp only;repeat'(first|exact trivial|refine eS rfl ?_|refine AB ?_|refine rX c ?_ ?_|refine rC ?_ ?_<;>intro d<;>try(cases d;done))
  ·refine⟨d,?_⟩;simp only[AO];dsimp only[Ty.den]at *;omega
  ·exact eV
  ·have e:n<a.length:=by exact eV
   refine⟨⟨n+1,by omega⟩,by simp only;omega,AC [(23,.nm 23)] rfl rfl ?_ ?_⟩
   ·simp only[hs];refine eM ?_;rw[An (by rw[g];exact NO _)]
   ·exact eN
  ·have e:n=a.length:=by exact eV
   subst e;refine Gc [23] ?_;have f:(Gd .andNot a b a.length).take a.length=Gd .andNot a b a.length:=An (by rw[Eu];exact NO _);repeat'(first|refine eS rfl ?_|refine rX c ?_ ?_)
   ·rw[f,Eu];exact ha
   ·rw[f];exact fI c [.tmp 4] (by unfold RI;exact eR)
def FQ (a b:List Int):Bool:=((RI a b).length:Int)==0
def Po:Ae:={ ins:=[EL,EL],pre:=λ(a,_,_)=>List.length a<=100000,out:=λ(a,b,_)=>[.p .bool (FQ a b)],lend:=true }
attribute [local go_sem] Po
theorem Xn:Af Tryz.prog 71 Po:=by
 refine fK [0,1,4] Tryz.func71 Tryz.ntmps71 (AF A0H AH) ?_;rintro w0 O0 ⟨a,b,u⟩ c-ha;have ha:a.length<=100000:=ha;simp only[Po,AM];repeat'(first|exact trivial|refine eS rfl ?_|refine rX c ?_ ?_)
 ·exact ha
 ·exact fI c [.tmp 4] (by unfold FQ;exact eR)
def DT (a b:List Int):Bool:=FQ a b&&FQ b a
def ZR:Ae:={ ins:=[EL,EL],pre:=λ(a,b,_)=>List.length a<=100000/\List.length b<=100000,out:=λ(a,b,_)=>[.p .bool (DT a b)],lend:=true }
theorem vU:Af Tryz.prog 134 ZR:=by
 refine fK [0,1,4] Tryz.func134 Tryz.ntmps134 (AF Xn AH) ?_;rintro w0 O0 ⟨a,b,u⟩ c-⟨ha,d⟩;simp only[ZR,AM];repeat'(first|exact trivial|refine eS rfl ?_|refine rX c ?_ ?_)
 ·exact⟨ha,λ_=>d⟩
 ·exact fI c [.tmp 4] (by unfold DT;exact eR)
end
section
attribute [local go_sem] A0E
def GN (a b:List Int):Bool:=decide (a=b)
def Ut:Ae:={ ins:=[EL,EL],pre:=λ_=>True,out:=λ(a,b,_)=>[.p .bool (GN a b)],lend:=true }
theorem ZS:Af Tryz.prog 125 Ut:=by
 refine fK [0,1,4,5,10,14,25] Tryz.func125 Tryz.ntmps125 AH ?_;rintro w0 O0 ⟨a,b,u⟩ d ⟨⟨ha,-⟩,-⟩ -;simp only[AO]at ha;simp only[Ut,AM];repeat'(first|exact trivial|refine eS rfl ?_|refine rX d ?_ ?_|refine rC ?_ ?_<;>intro c<;>try(cases c;done))
 ·have h1:GN a b=false:=by
   unfold GN;rw[To];rintro rfl;exact c rfl
  exact fI d [.tmp 4] (by rw[h1];exact eR)
 ·have f:a.length=b.length:=by
   have:(a.length:Int)=(b.length:Int):=by simpa using c
   exact Int.ofNat_inj.1 this
  refine AG (ι:={k:Nat//k<=a.length/\a.take k=b.take k}) (λk=>⟨[(0,.p EL a),(1,.p EL b),(5,.p (.int .i64) (k.1:Int))],[]⟩) (λk=>a.length-k.1) ⟨0,Is _,rfl⟩ (eW []) (λk=>?_)
  ·obtain⟨k,hk,hf⟩:=k;simp only;repeat'(first|exact trivial|refine eS rfl ?_|refine AB ?_|refine rX d ?_ ?_|refine rC ?_ ?_<;>intro c<;>try(cases c;done))
   ·exact⟨c,by rw[<-f];exact c⟩
   ·have e:k<a.length:=by exact eV
    have h1:GN a b=false:=by
     unfold GN;rw[To];rintro rfl;exact c rfl
    exact fI d [.tmp 4] (by rw[h1];exact eR)
   ·exact eV
   ·have e:k<a.length:=by exact eV
    have g:a.getD k 0=b.getD k 0:=by simpa using c
    refine⟨⟨k+1,by omega,?_⟩,by simp only;omega,AC [] rfl rfl ?_ ?_⟩
    ·rw[AW a 0 e,AW b 0 (by omega),hf];rw[show a.getD k 0=b.getD k 0 from g]
    ·exact eN
    ·exact eN
   ·have e:k=a.length:=by exact eV
    subst e;rw[iN,f,iN]at hf;have h1:GN a b=true:=by unfold GN;rw[hf];simp
    exact fI d [.tmp 4] (by rw[h1];exact eR)
end
section
attribute [local go_sem] A0E
def Np (b:List Int) (n:Nat):List Int:=((List.range n).filter λ(i:Nat)=>RH b (i:Int)).map λ(i:Nat)=>(i:Int)
def IK (b:List Int):List Int:=Np b (64*b.length)
theorem jL (b:List Int) (n:Nat):Np b (n+1)=Np b n++if RH b (n:Int)=true then [(n:Int)] else []:=by
 unfold Np;rw[AAq,ABQ,AAs]
 congr 1
 rw[AAE,ACu];split<;>rfl
theorem vV (b:List Int) (n:Nat):(Np b n).length<=n:=by
 unfold Np;rw[On];exact Qo (AB9 _ _) (by simp)
def A0I:Ae:={ ins:=[EL],pre:=λ(b,_)=>List.length b<=100000,out:=λ(b,_)=>[.p Es (IK b)] }
attribute [local go_sem] A0I
theorem A4X:Af Tryz.prog 156 A0I:=by
 refine fK [0,2,3,4,9,14] Tryz.func156 Tryz.ntmps156 (AF A0F AH) ?_;rintro w0 O0 ⟨b,u⟩ c-e;have e:b.length<=100000:=e;simp only[A0I,AM];repeat'(first|exact trivial|refine eS rfl ?_|refine rX c ?_ ?_)
 refine AG (ι:={n:Nat//n<=64*b.length}) (λn=>⟨[(0,.p EL b),(3,.sr 18 T3 0 (Np b n.1).length),(4,.p (.int .i64) (n.1:Int))],[(18,.arr 3 T3 (Np b n.1))]⟩) (λn=>64*b.length-n.1) ⟨0,Is _⟩ (AC [(18,.nil)] rfl rfl ?_ ?_) (λn=>?_)
 ·refine eM ?_;rfl
 ·refine eM ?_;rfl
 ·obtain⟨n,hn⟩:=n;have f:=vV b n;have hs:=jL b n;simp only;repeat'(first|exact trivial|refine eS rfl ?_|refine AB ?_|refine rX c ?_ ?_|refine rC ?_ ?_<;>intro a<;>try(cases a;done))
  ·exact eV
  ·rw[a,BY rfl]at hs;simp only[AO];dsimp only[Ty.den]at *;omega
  ·exact eV
  ·have d:n<64*b.length:=by exact eV
   rw[a,BY rfl]at hs;refine⟨⟨n+1,by omega⟩,by simp only;omega,AC [(18,.nm 18)] rfl rfl ?_ ?_⟩
   ·simp only[hs];exact eN
   ·simp only[hs];exact eN
  ·exact eV
  ·have d:n<64*b.length:=by exact eV
   rw[a,At (by simp),AAu]at hs;refine⟨⟨n+1,by omega⟩,by simp only;omega,AC [(18,.nm 18)] rfl rfl ?_ ?_⟩
   ·simp only[hs];exact eN
   ·simp only[hs];exact eN
  ·have d:n=64*b.length:=by exact eV
   subst d;refine Gc [18] ?_;exact fI c [.tmp 2] (by unfold IK;exact eR)
def jM:Ae:={ ins:=[EL],pre:=λ(b,_)=>List.length b<=100000,out:=λ(b,_)=>[.p T3 ((IK b).length:Int)],lend:=true }
theorem A0J:Af Tryz.prog 137 jM:=by
 refine fK [0,2] Tryz.func137 Tryz.ntmps137 (AF A4X AH) ?_;rintro w0 O0 ⟨b,u⟩ a-c;simp only[jM,AM];repeat'(first|exact trivial|refine eS rfl ?_|refine rX a ?_ ?_)
 ·exact c
 ·exact fI a [.tmp 2]
end
section
attribute [local go_sem] Jk A0A
abbrev AI:=ByteArray×List ByteArray×List (ByteArray×ByteArray)
abbrev d0:AI:=(ByteArray.empty,[],[])
def Cs (s:ByteArray):Nat->List AI->Int
 | _,[]=>-1
 | k,x :: l=>if Ac x.1 s=true then (k:Int) else Cs s (k+1) l
def Ao (l:List AI) (s:ByteArray):Int:=Cs s 0 l
theorem SV (s:ByteArray) (l:List AI) {k:Nat} (h:k<l.length):Cs s k (l.drop k)=if Ac (l.getD k d0).1 s=true then (k:Int) else Cs s (k+1) (l.drop (k+1)):=by
 rw[Of h];have e:l.getD k d0=l[k]:=by simp[AS,h]
 rw[e];rfl
def OO:Ae:={ ins:=[FP,T9],pre:=λ_=>True,out:=λ(l,s,_)=>[.p T3 (Ao l s)] }
attribute [local go_sem] OO
theorem MN:Af Tryz.prog 152 OO:=by
 refine fK [0,1,4,5,9,18] Tryz.func152 Tryz.ntmps152 AH ?_;rintro w0 O0 ⟨l,s,u⟩ c ⟨⟨d,-⟩,-⟩ -;simp only[AO]at d;simp only[OO,AM];repeat'(first|exact trivial|refine eS rfl ?_|refine rX c ?_ ?_)
 refine AG (ι:={k:Nat//k<=l.length/\Cs s k (l.drop k)=Ao l s}) (λk=>⟨[(0,.p FP l),(1,.p T9 s),(5,.p (.int .i64) (k.1:Int))],[]⟩) (λk=>l.length-k.1) ⟨0,Is _,rfl⟩ (eW []) (λk=>?_)
 ·obtain⟨k,hk,hf⟩:=k;simp only;repeat'(first|exact trivial|refine eS rfl ?_|refine AB ?_|refine rX c ?_ ?_|refine rC ?_ ?_<;>intro b<;>try(cases b;done))
  ·exact b
  ·have a:k<l.length:=by exact eV
   rw[SV s l a,BY b]at hf;exact fI c [.tmp 4] (by rw[<-hf];exact eR)
  ·exact eV
  ·have a:k<l.length:=by exact eV
   rw[SV s l a,At (by rw[b];simp)]at hf;exact⟨⟨k+1,by omega,hf⟩,by simp only;omega,eW []⟩
  ·have a:l.drop k=[]:=IF (by exact eV);rw[a]at hf;exact fI c [.tmp 4] (by rw[<-hf];first|exact eR|refine cG ?_;rfl)
def MO:List AI->Int
 | []=>0
 | x :: l=>if 256<x.2.1.length\/256<x.2.2.length then 7 else MO l
def E9 (l:List AI):Int:=if 256<l.length then 7 else MO l
theorem SW (l:List AI) {k:Nat} (h:k<l.length):MO (l.drop k)=if 256<(l.getD k d0).2.1.length\/256<(l.getD k d0).2.2.length then 7 else MO (l.drop (k+1)):=by
 rw[Of h];have e:l.getD k d0=l[k]:=by simp[AS,h]
 rw[e];rfl
def ZT:Ae:={ ins:=[FP],pre:=λ_=>True,out:=λ(l,_)=>[.p Wq (E9 l)] }
attribute [local go_sem] ZT
theorem A0K:Af Tryz.prog 126 ZT:=by
 refine fK [0,2,3,6,10,28] Tryz.func126 Tryz.ntmps126 AH ?_;rintro w0 O0 ⟨l,u⟩ b ⟨⟨d,-⟩,-⟩ -;simp only[AO]at d;simp only[ZT,AM];repeat'(first|exact trivial|refine eS rfl ?_|refine rX b ?_ ?_|refine rC ?_ ?_<;>intro a<;>try(cases a;done))
 ·have h1:E9 l=7:=by unfold E9;rw[BY (by exact eV)]
  exact fI b [.tmp 2] (by rw[h1];exact eR)
 ·have h1:E9 l=MO l:=by unfold E9;rw[At (by exact eV)]
  refine AG (ι:={k:Nat//k<=l.length/\MO (l.drop k)=E9 l}) (λk=>⟨[(0,.p FP l),(3,.p (.int .i64) (k.1:Int))],[]⟩) (λk=>l.length-k.1) ⟨0,Is _,h1.symm⟩ (eW []) (λk=>?_)
  ·obtain⟨k,hk,hf⟩:=k;simp only;repeat'(first|exact trivial|refine eS rfl ?_|refine AB ?_|refine rX b ?_ ?_|refine rC ?_ ?_<;>intro a<;>try(cases a;done))
   ·exact⟨a,λ_=>a⟩
   ·have c:k<l.length:=by exact eV
    rw[SW l c,BY (by
     rcases a with h|h
     ·exact .inl (No.1 h)
     ·exact .inr (No.1 h))]at hf
    exact fI b [.tmp 2] (by rw[<-hf];exact eR)
   ·exact eV
   ·have c:k<l.length:=by exact eV
    rw[SW l c,At (by
     rintro (h|h)
     ·have:=aT.1 a.1;exact absurd h (Nat.not_lt.2 this)
     ·have:=aT.1 a.2;exact absurd h (Nat.not_lt.2 this))]at hf
    exact⟨⟨k+1,by omega,hf⟩,by simp only;omega,eW []⟩
   ·have c:l.drop k=[]:=IF (by exact eV);rw[c]at hf;exact fI b [.tmp 2] (by rw[<-hf];first|exact eR|refine cG ?_;rfl)
theorem Ge {α:Type} (l:List α) (d:α) (p:α->Bool) {k:Nat} (h:k<l.length):(l.take (k+1)).all p=((l.take k).all p&&p (l.getD k d)):=by
 rw[AW l d h,ACb];simp
def Jl (x:AI) (done:List ByteArray):Bool:=x.2.1.all λs=>AX done s
def ZU:Ae:={ ins:=[vQ,B9],pre:=λ_=>True,out:=λ(x,l,_)=>[.p .bool (Jl x l)],lend:=true }
attribute [local go_sem] ZU
theorem A0L:Af Tryz.prog 153 ZU:=by
 refine fK [0,1,2,4,5,10,20] Tryz.func153 Tryz.ntmps153 (AF G2 AH) ?_;rintro w0 O0 ⟨⟨nm,sup,d⟩,l,u⟩ c ⟨⟨-,⟨e,-⟩,-⟩,-⟩ -;simp only[AO]at e;simp only[ZU,AM];repeat'(first|exact trivial|refine eS rfl ?_|refine rX c ?_ ?_)
 refine AG (ι:={k:Nat//k<=sup.length/\(sup.take k).all (λs=>AX l s)=true}) (λk=>⟨[(1,.p B9 l),(2,.bp 2 [] 0),(5,.p (.int .i64) (k.1:Int))],[(2,.box 111 true [.p T9 nm,.p B9 sup,.p cK d])]⟩) (λk=>sup.length-k.1) ⟨0,by simp⟩ (eW [(2,.nm 2)]) (λk=>?_)
 ·obtain⟨k,hk,hf⟩:=k;simp only;repeat'(first|exact trivial|refine eS rfl ?_|refine AB ?_|refine rX c ?_ ?_|refine rC ?_ ?_<;>intro b<;>try(cases b;done))
  ·exact b
  ·have a:k<sup.length:=by exact eV
   have h1:Jl (nm,sup,d) l=false:=by
    unfold Jl;refine ACF.2 λh=>?_;have:=IN.1 h _ (AD sup ByteArray.empty a);rw[b]at this;cases this
   exact fI c [.tmp 4] (by rw[h1];exact eR)
  ·have:=e;exact eV
  ·have a:k<sup.length:=by exact eV
   refine⟨⟨k+1,by omega,?_⟩,by simp only;omega,AC [(2,.nm 2)] rfl rfl ?_ ?_⟩
   ·rw[Ge sup ByteArray.empty _ a,hf];exact b
   ·exact eN
   ·exact eN
  ·have a:sup.take k=sup:=An (by exact eV);rw[a]at hf;have h1:Jl (nm,sup,d) l=true:=hf;exact fI c [.tmp 4] (by rw[h1];exact eR)
def OP (d:List AI):Nat->List AI->Int
 | _,[]=>0
 | k,x :: l=>if Et x.1 false=false then 1 else if Ao d x.1<(k:Int) then 4 else OP d (k+1) l
def Cl (d:List AI):Int:=OP d 0 d
theorem MP (d l:List AI) {k:Nat} (h:k<l.length):OP d k (l.drop k)=if Et (l.getD k d0).1 false=false then 1 else if Ao d (l.getD k d0).1<(k:Int) then 4 else OP d (k+1) (l.drop (k+1)):=by
 rw[Of h];have e:l.getD k d0=l[k]:=by simp[AS,h]
 rw[e];rfl
def ZV:Ae:={ ins:=[FP],pre:=λ_=>True,out:=λ(l,_)=>[.p Wq (Cl l)] }
attribute [local go_sem] ZV
theorem A0M:Af Tryz.prog 127 ZV:=by
 refine fK [0,2,3,7,16,25] Tryz.func127 Tryz.ntmps127 (AF A4W (AF MN AH)) ?_;rintro w0 O0 ⟨l,u⟩ c ⟨⟨e,-⟩,-⟩ -;simp only[AO]at e;simp only[ZV,AM];repeat'(first|exact trivial|refine eS rfl ?_|refine rX c ?_ ?_)
 refine AG (ι:={k:Nat//k<=l.length/\OP l k (l.drop k)=Cl l}) (λk=>⟨[(0,.p FP l),(3,.p (.int .i64) (k.1:Int))],[]⟩) (λk=>l.length-k.1) ⟨0,Is _,rfl⟩ (eW []) (λk=>?_)
 ·obtain⟨k,hk,hf⟩:=k;simp only;repeat'(first|exact trivial|refine eS rfl ?_|refine AB ?_|refine rX c ?_ ?_|refine rC ?_ ?_<;>intro b<;>try(cases b;done))
  ·exact b
  ·have a:k<l.length:=by exact eV
   rw[MP l l a,BY b]at hf;exact fI c [.tmp 2] (by rw[<-hf];exact eR)
  ·assumption
  ·rename_i d;have a:k<l.length:=by exact eV
   rw[MP l l a,At (by rw[d];simp),BY b]at hf;exact fI c [.tmp 2] (by rw[<-hf];exact eR)
  ·exact eV
  ·rename_i d;have a:k<l.length:=by exact eV
   rw[MP l l a,At (by rw[d];simp),At (ABC.2 b)]at hf;exact⟨⟨k+1,by omega,hf⟩,by simp only;omega,eW []⟩
  ·have a:l.drop k=[]:=IF (by exact eV);rw[a]at hf;exact fI c [.tmp 2] (by rw[<-hf];first|exact eR|refine cG ?_;rfl)
def S5 (d:List AI) (l:List ByteArray):Nat->List ByteArray->Int
 | _,[]=>0
 | k,x :: r=>if Ao d x<0 then 5 else if AX (l.take k) x=true then 4 else S5 d l (k+1) r
def K9 (d:List AI):List AI->Int
 | []=>0
 | x :: l=>if S5 d x.2.1 0 x.2.1≠0 then S5 d x.2.1 0 x.2.1 else K9 d l
def LA (d:List AI):Int:=K9 d d
theorem RJ (d:List AI) (l:List ByteArray) {k:Nat} (h:k<l.length):S5 d l k (l.drop k)=if Ao d (l.getD k ByteArray.empty)<0 then 5 else if AX (l.take k) (l.getD k ByteArray.empty)=true then 4 else S5 d l (k+1) (l.drop (k+1)):=by
 rw[Of h];have e:l.getD k ByteArray.empty=l[k]:=by simp[AS,h]
 rw[e];rfl
theorem ZW (d l:List AI) {k:Nat} (h:k<l.length):K9 d (l.drop k)=if S5 d (l.getD k d0).2.1 0 (l.getD k d0).2.1≠0 then S5 d (l.getD k d0).2.1 0 (l.getD k d0).2.1 else K9 d (l.drop (k+1)):=by
 rw[Of h];have e:l.getD k d0=l[k]:=by simp[AS,h]
 rw[e];rfl
def TR:Ae:={ ins:=[FP],pre:=λ_=>True,out:=λ(l,_)=>[.p Wq (LA l)] }
attribute [local go_sem] TR
theorem vW:Af Tryz.prog 128 TR:=by
 refine fK [0,2,3,4,5,9,20,29,37] Tryz.func128 Tryz.ntmps128 (AF G2 (AF MN AH)) ?_;rintro w0 O0 ⟨l,u⟩ d ⟨⟨h,g⟩,-⟩ -;simp only[AO]at h;simp only[TR,AM];repeat'(first|exact trivial|refine eS rfl ?_|refine rX d ?_ ?_)
 refine AG (ι:={i:Nat//i<=l.length/\K9 l (l.drop i)=LA l}) (λi=>⟨[(0,.p FP l),(3,.p (.int .i64) (i.1:Int))],[]⟩) (λi=>l.length-i.1) ⟨0,Is _,rfl⟩ (eW []) (λi=>?_)
 ·obtain⟨i,hi,hf⟩:=i;simp only;repeat'(first|exact trivial|refine eS rfl ?_|refine rX d ?_ ?_|refine rC ?_ ?_<;>intro b<;>try(cases b;done))
  ·exact b
  ·have f:i<l.length:=by exact eV
   have j:=g _ (AD l d0 f);have m:(l.getD i d0).2.1.length<=AO:=j.2.1.1;simp only[AO]at m;rw[ZW l l f]at hf;generalize (l.getD i d0).2.1=sup at *;refine AG (ι:={k:Nat//k<=sup.length/\S5 l sup k (sup.drop k)=S5 l sup 0 sup}) (λk=>⟨[(0,.p FP l),(3,.p (.int .i64) (i:Int)),(4,.p B9 sup),(5,.p (.int .i64) (k.1:Int))],[]⟩) (λk=>sup.length-k.1) ⟨0,Is _,rfl⟩ (eW []) (λk=>?_)
   ·obtain⟨k,hk,c⟩:=k;simp only;repeat'(first|exact trivial|refine eS rfl ?_|refine AB ?_|refine rX d ?_ ?_|refine rC ?_ ?_<;>intro b<;>try(cases b;done))
    ·exact b
    ·have a:k<sup.length:=by exact eV
     rw[RJ l sup a,BY b]at c;rw[<-c,BY (by decide)]at hf;exact fI d [.tmp 2] (by rw[<-hf];exact eR)
    ·exact eV
    ·rename_i e;have a:k<sup.length:=by exact eV
     rw[RJ l sup a,At (ABC.2 e),BY b]at c;rw[<-c,BY (by decide)]at hf;exact fI d [.tmp 2] (by rw[<-hf];exact eR)
    ·exact eV
    ·rename_i e;have a:k<sup.length:=by exact eV
     rw[RJ l sup a,At (ABC.2 e),At (by rw[b];simp)]at c;exact⟨⟨k+1,by omega,c⟩,by simp only;omega,eW []⟩
    ·exact eV
    ·have a:sup.drop k=[]:=IF (by exact eV);rw[a]at c;rw[<-c,At (by simp[S5])]at hf;exact⟨⟨i+1,by omega,hf⟩,by simp only;omega,eW []⟩
  ·have a:l.drop i=[]:=IF (by exact eV);rw[a]at hf;exact fI d [.tmp 2] (by rw[<-hf];first|exact eR|refine cG ?_;rfl)
end
section
attribute [local go_sem] OO ZU Jk ZQ
theorem E4 {α β:Type} (g:β->α->β) (l:List α) (d:α) (t:β) {i:Nat} (hi:i<l.length):(l.take (i+1)).foldl g t=g ((l.take i).foldl g t) (l.getD i d):=by
 rw[AW l d hi,ABU];rfl
theorem MQ (l:List ByteArray) (s:ByteArray):(Ea l s).length<=l.length+1:=by
 unfold Ea;split
 ·omega
 ·have:=A6k (λx=>HW x s) l;have a:atF l s<=l.length:=this;simp only[GO,ON,AAQ,aS];omega
def AN (l:List AI):List ByteArray:=l.foldl (λo x=>Ea o x.1) []
theorem D9 (l:List AI) (k:Nat):(AN (l.take k)).length<=k:=by
 have key:∀(l:List AI) (o:List ByteArray),(l.foldl (λo x=>Ea o x.1) o).length<=o.length+l.length:=by
  intro l;induction l with
  | nil=>intro o;simp
  | cons x l b =>
   intro o;have h1:=b (Ea o x.1);have a:=MQ o x.1;simp only[TO,OS];omega
 have h1:=key (l.take k) [];have a:=AAL k l;unfold AN;simp only[ABn]at h1;omega
def Pp:Ae:={ ins:=[FP],pre:=λ(l,_)=>List.length l<=100000,out:=λ(l,_)=>[.p B9 (AN l)] }
attribute [local go_sem] Pp
theorem Xo:Af Tryz.prog 98 Pp:=by
 refine fK [0,2,3,4,8] Tryz.func98 Tryz.ntmps98 (AF RG AH) ?_;rintro w0 O0 ⟨l,u⟩ a-d;have d:l.length<=100000:=d;simp only[Pp,AM];repeat'(first|exact trivial|refine eS rfl ?_|refine rX a ?_ ?_)
 refine AG (ι:={k:Nat//k<=l.length}) (λk=>⟨[(0,.p FP l),(3,.p B9 (AN (l.take k.1))),(4,.p (.int .i64) (k.1:Int))],[]⟩) (λk=>l.length-k.1) ⟨0,Is _⟩ (AC [] rfl rfl ?_ ?_) (λk=>?_)
 ·exact eN
 ·refine eM ?_;rfl
 ·obtain⟨k,hk⟩:=k;have hn:=D9 l k;have hs:=λh:k<l.length=>E4 (λ(o:List ByteArray) (x:AI)=>Ea o x.1) l d0 [] h;simp only;repeat'(first|exact trivial|refine eS rfl ?_|refine AB ?_|refine rX a ?_ ?_|refine rC ?_ ?_<;>intro c<;>try(cases c;done))
  ·exact⟨c,by omega⟩
  ·exact eV
  ·have b:k<l.length:=by exact eV
   have e:=hs b;refine⟨⟨k+1,by omega⟩,by simp only;omega,AC [] rfl rfl ?_ ?_⟩
   ·exact eN
   ·simp only;have e:AN (l.take (k+1))=Ea (AN (l.take k)) (l.getD k d0).1:=e;rw[e];exact eN
  ·have b:l.take k=l:=An (by exact eV);rw[b];exact fI a [.tmp 2]
def JN (out:List ByteArray) (s:Bool×ByteArray) (x:AI):Bool×ByteArray :=
 if (AX out x.1||!Jl x out)=true then s else (true,if (!s.1||HW x.1 s.2)=true then x.1 else s.2)
def IL (d:List AI) (out:List ByteArray):Bool×ByteArray:=d.foldl (JN out) (false,ByteArray.empty)
def JO (d:List AI):Nat->List ByteArray->List ByteArray
 | 0,out=>out
 | n+1,out=>if (IL d out).1=true then JO d n (out++[(IL d out).2]) else out
def Bg (d:List AI):List ByteArray:=JO d d.length []
def IM (d:List AI) (out:List ByteArray):Nat:=d.countP λx=>!AX out x.1
theorem Ct (s:ByteArray):Ac s s=true:=by unfold Ac;simp
theorem OQ (out:List ByteArray) (s x:ByteArray):AX (out++[s]) x=(AX out x||Ac s x):=by
 unfold AX;simp[ACv]
theorem vX (d:List AI) (out:List ByteArray) (h:(IL d out).1=true):∃x∈d,x.1=(IL d out).2/\AX out x.1=false:=by
 have key:∀(l:List AI) (s:Bool×ByteArray),(∀x∈l,x∈d)->(s.1=true->∃x∈d,x.1=s.2/\AX out x.1=false)->(l.foldl (JN out) s).1=true ->
   ∃x∈d,x.1=(l.foldl (JN out) s).2/\AX out x.1=false:=by
  intro l;induction l with
  | nil=>intro s _ hs h;exact hs h
  | cons y l g =>
   intro s c hs h;rw[TO]at h ⊢;refine g _ (λx e=>c x (by simp[e])) (λhp=>?_) h;unfold JN at hp ⊢;split
   ·rename_i a;rw[BY a]at hp;exact hs hp
   ·rename_i a;simp only;have f:AX out y.1=false:=by
     cases hh:AX out y.1 with
     | false=>rfl
     | true=>rw[hh]at a;simp at a
    split
    ·exact⟨y,c y (by simp),rfl,f⟩
    ·rename_i b;have:s.1=true:=by
      cases hh:s.1 with
      | true=>rfl
      | false=>rw[hh]at b;simp at b
     exact hs this
 exact key d _ (λ_ h=>h) (λh=>by cases h) h
theorem cU {d:List AI} {out:List ByteArray} (h:(IL d out).1=true):IM d (out++[(IL d out).2])<IM d out:=by
 obtain⟨x,e,h1,c⟩:=vX d out h;generalize (IL d out).2=s at *;unfold IM;have key:∀l:List AI,(l.countP λy=>!AX (out++[s]) y.1)<=l.countP λy=>!AX out y.1:=by
  intro l;refine List.countP_mono_left λy _ a=>?_;rw[OQ]at a;cases hh:AX out y.1 with
  | false=>rfl
  | true=>rw[hh]at a;simp at a
 obtain⟨f,g,rfl⟩:=List.append_of_mem e;rw[AD2,AD2,ABI,ABI];have i:=key f;have j:=key g;have b:AX (out++[s]) x.1=true:=by rw[OQ,h1,Ct,Bool.or_true]
 rw[b,c];simp only[ACy,ACH,ABi];simp only[ABj,ABK];omega
def ZX:Ae:={ ins:=[FP],pre:=λ(l,_)=>List.length l<=100000,out:=λ(l,_)=>[.p B9 (Bg l)] }
theorem vY:Af Tryz.prog 129 ZX:=by
 refine fK [0,2,3,4,5,6,7,11,29,40,46] Tryz.func129 Tryz.ntmps129 (AF G2 (AF A0L AH)) ?_;rintro w0 O0 ⟨d,u⟩ j-r;have r:d.length<=100000:=r;simp only[ZX,AM];repeat'(first|exact trivial|refine eS rfl ?_|refine rX j ?_ ?_)
 refine AG (ι:={x:Nat×List ByteArray×Bool//x.1+x.2.1.length<=d.length/\(x.2.2=true->IM d x.2.1<=x.1/\JO d x.1 x.2.1=Bg d)/\(x.2.2=false->x.2.1=Bg d)}) (λx=>⟨[(0,.p FP d),(3,.sr 50 T9 0 x.1.2.1.length),(4,.p .bool x.1.2.2)],[(50,.arr 9 T9 x.1.2.1)]⟩) (λx=>(if x.1.2.2=true then x.1.1+1 else 0)) ⟨(d.length,[],true),by simp,λ_=>⟨List.countP_le_length,rfl⟩,λh=>by cases h⟩ (eW [(50,.nil)]) (λx=>?_)
 ·obtain⟨⟨n,out,C⟩,s,t,v⟩:=x;simp only at s t v;simp only;repeat'(first|exact trivial|refine eS rfl ?_|refine rX j ?_ ?_|refine rC ?_ ?_<;>intro a<;>try(cases a;done))
  ·subst a;obtain⟨hu,hp⟩:=t rfl;have B:({ data:=#[] }:ByteArray).size<=AO:=by decide
   rw[BY B];refine AG (ι:={y:Nat×Bool×ByteArray//y.1<=d.length/\(d.take y.1).foldl (JN out) (false,ByteArray.empty)=y.2}) (λy=>⟨[(0,.p FP d),(3,.sr 50 T9 0 out.length),(4,.p .bool y.1.2.1),(5,.p T9 y.1.2.2),(6,.p (.int .i64) (y.1.1:Int))],[(50,.arr 9 T9 out)]⟩) (λy=>d.length-y.1.1) ⟨(0,false,ByteArray.empty),by simp,rfl⟩ (AC [(50,.nm 50)] rfl rfl ?_ ?_) (λy=>?_)
   ·exact eN
   ·refine eM ?_;rfl
   ·obtain⟨⟨k,w,b⟩,hk,c⟩:=y;simp only at hk c;have q:∀h:k<d.length,(d.take (k+1)).foldl (JN out) (false,ByteArray.empty)=JN out (w,b) (d.getD k d0):=λh=>by
     rw[E4 (JN out) d d0 _ h,c]
    simp only;repeat'(first|exact trivial|refine eS rfl ?_|refine AB ?_|refine rX j ?_ ?_|refine rC ?_ ?_<;>intro a<;>try(cases a;done))
    ·exact⟨a,λ_=>a⟩
    ·exact eV
    ·have g:k<d.length:=by exact eV
     refine⟨⟨(k+1,w,b),by simp only;omega,?_⟩,by simp only;omega,AC [(50,.nm 50)] rfl rfl ?_ ?_⟩
     ·simp only;rw[q g];unfold JN;rw[BY];rw[AAz,dO];exact a
     ·exact eN
     ·exact eN
    ·exact λ_=>by assumption
    ·assumption
    ·exact eV
    ·rename_i f;have g:k<d.length:=by exact eV
     refine⟨⟨(k+1,true,(d.getD k d0).1),by simp only;omega,?_⟩,by simp only;omega,AC [(50,.nm 50)] rfl rfl ?_ ?_⟩
     ·simp only;rw[q g];unfold JN;rw[At (by rw[f.1,f.2];simp),BY (by rw[AAz,dO];exact a)]
     ·exact eN
     ·exact eN
    ·exact eV
    ·rename_i f;have g:k<d.length:=by exact eV
     refine⟨⟨(k+1,true,b),by simp only;omega,?_⟩,by simp only;omega,AC [(50,.nm 50)] rfl rfl ?_ ?_⟩
     ·simp only;rw[q g];unfold JN;rw[At (by rw[f.1,f.2];simp),At (by rw[AAz,dO];rintro (h|h)<;>simp_all)]
     ·exact eN
     ·exact eN
    ·simp only[AO];dsimp only[Ty.den]at *;omega
    ·subst a;have l:d.take k=d:=An (by exact eV);rw[l]at c;have i:IL d out=(true,b):=c;have m:=cU (d:=d) (out:=out) (by rw[i]);rw[i]at m;obtain⟨e,rfl⟩:∃e,n=e+1:=⟨n-1,by omega⟩;have o:JO d e (out++[b])=Bg d:=by
      rw[<-hp];show _=if (IL d out).1=true then JO d e (out++[(IL d out).2]) else out
      rw[i,BY rfl]
     have m:IM d (out++[b])<IM d out:=m;have A:IM d (out++[b])<=e:=by omega
     exact⟨⟨(e,out++[b],true),by simp only[GO,aS];omega,λ_=>⟨A,o⟩,λh=>by cases h⟩,by simp,eW [(50,.nm 50)]⟩
    ·subst a;have l:d.take k=d:=An (by exact eV);rw[l]at c;have i:IL d out=(false,b):=c;have o:out=Bg d:=by
      rw[<-hp];cases n with
      | zero=>rfl
      | succ n =>
       show _=if (IL d out).1=true then JO d n (out++[(IL d out).2]) else out
       rw[i,At (by simp)]
     exact⟨⟨(n,out,false),s,(λh=>by cases h),λ_=>o⟩,by simp,eW [(50,.nm 50)]⟩
  ·subst a;have z:=v rfl;rw[z];refine Gc [50] ?_;exact fI j [.tmp 2]
end
section
attribute [local go_sem] ZT ZV TR ZX
def X1 (d:List AI):Nat:=d.countP λx=>x.2.1.length==0
theorem cV (d:List AI) {k:Nat} (h:k<d.length):X1 (d.take (k+1))=X1 (d.take k)+if ((d.getD k d0).2.1.length==0)=true then 1 else 0:=by
 unfold X1;rw[AW d d0 h,AD2,ABI,List.countP_nil];omega
theorem vZ (d:List AI):X1 d<=d.length:=List.countP_le_length
def A4 (d:List AI):Int :=
 if E9 d≠0 then E9 d else if Cl d≠0 then Cl d else if LA d≠0 then LA d else if X1 d≠1 then 1 else if (Bg d).length<d.length then 6 else 0
theorem SX {d:List AI} (h:E9 d=0):d.length<=256:=by
 unfold E9 at h;split at h
 ·cases h
 ·omega
def TS:Ae:={ ins:=[FP],pre:=λ_=>True,out:=λ(l,_)=>[.p Wq (A4 l)] }
attribute [local go_sem] TS
theorem v4:Af Tryz.prog 97 TS:=by
 refine fK [0,2,3,4,5,6,7,11,16,21,26,35,39,45] Tryz.func97 Tryz.ntmps97 (AF A0K (AF A0M (AF vW (AF vY AH)))) ?_;rintro w0 O0 ⟨d,u⟩ c - -;simp only[TS,AM];repeat'(first|exact trivial|refine eS rfl ?_|refine rX c ?_ ?_|refine rC ?_ ?_<;>intro a<;>try(cases a;done))
 ·have h1:A4 d=E9 d:=by unfold A4;rw[BY a]
  exact fI c [.tmp 2] (by rw[h1];exact eR)
 ·rename_i hs;have hs:E9 d=0:=by simpa using hs
  have h1:A4 d=Cl d:=by unfold A4;rw[At (by rw[hs];simp),BY a]
  exact fI c [.tmp 2] (by rw[h1];exact eR)
 ·rename_i hs hn;have hs:E9 d=0:=by simpa using hs
  have hn:Cl d=0:=by simpa using hn
  have h1:A4 d=LA d:=by unfold A4;rw[At (by rw[hs];simp),At (by rw[hn];simp),BY a]
  exact fI c [.tmp 2] (by rw[h1];exact eR)
 ·rename_i hs hn;have hs:E9 d=0:=by simpa using hs
  have hn:Cl d=0:=by simpa using hn
  have hu:LA d=0:=by simpa using a
  have i:=SX hs;have h1:A4 d=if X1 d≠1 then 1 else if (Bg d).length<d.length then 6 else 0:=by
   unfold A4;rw[At (by rw[hs];simp),At (by rw[hn];simp),At (by rw[hu];simp)]
  refine AG (ι:={k:Nat//k<=d.length}) (λk=>⟨[(0,.p FP d),(6,.p (.int .i64) (X1 (d.take k.1):Int)),(7,.p (.int .i64) (k.1:Int))],[]⟩) (λk=>d.length-k.1) ⟨0,Is _⟩ (AC [] rfl rfl ?_ ?_) (λk=>?_)
  ·exact eN
  ·refine eM ?_;rfl
  ·obtain⟨k,hk⟩:=k;have j:=vZ (d.take k);have l:=AAL k d;have g:=λh:k<d.length=>cV d h;simp only;repeat'(first|exact trivial|refine eS rfl ?_|refine AB ?_|refine rX c ?_ ?_|refine rC ?_ ?_<;>intro a<;>try(cases a;done))
   ·exact a
   ·exact eV
   ·exact eV
   ·have b:k<d.length:=by exact eV
    have e:=g b;rw[BY (by rw[AAN];exact Int.ofNat_eq_zero.1 a)]at e;refine⟨⟨k+1,by omega⟩,by simp only;omega,AC [] rfl rfl ?_ ?_⟩
    ·exact eN
    ·simp only[e];exact eN
   ·exact eV
   ·have b:k<d.length:=by exact eV
    have e:=g b;rw[At (by rw[AAN];exact λh=>a (Int.ofNat_eq_zero.2 h))]at e;refine⟨⟨k+1,by omega⟩,by simp only;omega,AC [] rfl rfl ?_ ?_⟩
    ·exact eN
    ·simp only[e];exact eN
   ·have b:d.take k=d:=An (by exact eV);rw[b]at a;rw[BY (λh=>a (by rw[h];rfl))]at h1;exact fI c [.tmp 2] (by rw[h1];exact eR)
   ·show d.length<=100000;omega
   ·rename_i f;have b:d.take k=d:=An (by exact eV);rw[b]at f;have f:(X1 d:Int)=1:=by simpa using f
    rw[At (by omega),BY (No.1 a)]at h1;exact fI c [.tmp 2] (by rw[h1];exact eR)
   ·rename_i f;have b:d.take k=d:=An (by exact eV);rw[b]at f;have f:(X1 d:Int)=1:=by simpa using f
    rw[At (by omega),At (λh=>absurd (aT.1 a) (Nat.not_le.2 h))]at h1;exact fI c [.tmp 2] (by rw[h1];exact eR)
end
section
attribute [local go_sem] OO Jk ZQ
def KG (o:List ByteArray) (s:ByteArray):List ByteArray:=if AX o s=true then o else o++[s]
def MR (d:List AI) (s:ByteArray):List ByteArray:=(d.getD (Ao d s).toNat d0).2.1
def IP (d:List AI):Nat->Nat->List ByteArray->List ByteArray
 | 0,_,o=>o
 | n+1,i,o=>if i<o.length then IP d n (i+1) ((MR d (o.getD i ByteArray.empty)).foldl KG o) else o
def KH (l:List ByteArray):List ByteArray:=l.foldl Ea []
theorem Xp (l:List ByteArray):(KH l).length<=l.length:=by
 have key:∀(l o:List ByteArray),(l.foldl Ea o).length<=o.length+l.length:=by
  intro l;induction l with
  | nil=>intro o;simp
  | cons x l a =>
   intro o;have h1:=a (Ea o x);have b:=MQ o x;simp only[TO,OS];omega
 have:=key l [];simpa[KH] using this
def LB (d:List AI) (s:ByteArray):List ByteArray:=if Ao d s<0 then [] else KH (IP d d.length 0 [s])
def Pq (d:List AI):Prop:=∀x∈d,∀s∈x.2.1,0<=Ao d s
theorem Xq (s:ByteArray):∀(l:List AI) (k:Nat),Cs s k l=-1\/((k:Int)<=Cs s k l/\Cs s k l<(k:Int)+l.length/\Ac (l.getD ((Cs s k l).toNat-k) d0).1 s=true)
 | [],_=>.inl rfl
 | x :: l,k=>by
  simp only[Cs];split
  ·rename_i h;right;refine⟨by omega,by simp only[OS];omega,?_⟩;have:((k:Int).toNat-k)=0:=by omega
   rw[this];exact h
  ·rcases Xq s l (k+1) with h|⟨h1,b,a⟩
   ·exact .inl h
   ·right;refine⟨by omega,by simp only[OS];omega,?_⟩;have:((Cs s (k+1) l).toNat-k)=((Cs s (k+1) l).toNat-(k+1))+1:=by omega
    rw[this];exact a
theorem DU (d:List AI) (s:ByteArray):Ao d s<0\/(0<=Ao d s/\Ao d s<(d.length:Int)/\Ac (d.getD (Ao d s).toNat d0).1 s=true):=by
 rcases Xq s d 0 with h|⟨h1,a,b⟩
 ·left;show Cs s 0 d<0;omega
 ·have a:Ao d s<((0:Nat):Int)+d.length:=a;exact .inr ⟨h1,by omega,b⟩
theorem Hq {a b:ByteArray}:Ac a b=true↔a.toList=b.toList:=by unfold Ac;simp
theorem EA {a b:ByteArray} (h:Ac a b=true):Ac b a=true:=Hq.2 (Hq.1 h).symm
theorem BT {a b c:ByteArray} (h:Ac a b=true) (g:Ac b c=true):Ac a c=true:=Hq.2 ((Hq.1 h).trans (Hq.1 g))
structure ZY (d:List AI) (o:List ByteArray):Prop where
 decl:∀s∈o,0<=Ao d s
 nd:o.Pairwise λa b=>Ac a b=false
theorem LC (d:List AI):∀ {o:List ByteArray},ZY d o->(o.map λs=>(Ao d s).toNat).Nodup
 | [],_=>by simp
 | s :: o,h=>by
  rw[AAn,AAS];have c:=AAX.1 h.nd;refine⟨λi=>?_,LC d ⟨λx a=>h.decl x (by simp[a]),c.2⟩⟩;obtain⟨x,a,e⟩:=Do.1 i;have h1:=h.decl s (by simp);have j:=h.decl x (by simp[a]);rcases DU d s with g|⟨_,_,f⟩
  ·omega
  ·rcases DU d x with g|⟨_,_,b⟩
   ·omega
   ·rw[e]at b;have:=c.1 x a;rw[BT (EA f) b]at this;cases this
theorem ZY.len {d:List AI} {o:List ByteArray} (h:ZY d o):o.length<=d.length:=by
 have:=EW d.length (o.map λs=>(Ao d s).toNat) (LC d h) (λj a=>by
  obtain⟨s,hs,rfl⟩:=Do.1 a;have h1:=h.decl s hs;rcases DU d s with g|⟨_,g,_⟩<;>omega)
 simpa using this
theorem Pr {o:List ByteArray} {s:ByteArray} (h:AX o s=false):∀x∈o,Ac x s=false:=λx a=>by
 cases hh:Ac x s with
 | false=>rfl
 | true=>exact absurd h (by rw[show AX o s=true from iS.2 ⟨x,a,hh⟩];simp)
theorem sA {d:List AI} {o:List ByteArray} (h:ZY d o) {s:ByteArray} (hs:0<=Ao d s):ZY d (KG o s):=by
 unfold KG;split
 ·exact h
 ·rename_i e;have e:AX o s=false:=by simpa using e
  refine⟨λx c=>?_,?_⟩
  ·rcases OF.1 c with c|c
   ·exact h.decl x c
   ·have:x=s:=by simpa using c
    rw[this];exact hs
  ·rw[ABR];refine⟨h.nd,by simp,λa ha b f=>?_⟩;have:b=s:=by simpa using f
   rw[this];exact Pr e a ha
theorem cW {d:List AI}:∀ {l o:List ByteArray},(∀s∈l,0<=Ao d s)->ZY d o->ZY d (l.foldl KG o)/\o.length<=(l.foldl KG o).length
 | [],o,_,h=>⟨h,NO _⟩
 | s :: l,o,a,h=>by
  obtain⟨b,c⟩:=cW (l:=l) (λx e=>a x (by simp[e])) (sA h (a s (by simp)));refine⟨b,Qo ?_ c⟩;unfold KG;split<;>simp
theorem cX {d:List AI} (b:Pq d) (s:ByteArray):∀x∈MR d s,0<=Ao d x:=by
 intro x a;unfold MR at a;by_cases h:(Ao d s).toNat<d.length
 ·exact b _ (AD d d0 h) x a
 ·rw[AS,iF (by omega)]at a;cases a
def jN:Ae:={ ins:=[FP,T9],pre:=λ(d,_,_)=>Pq d/\List.length d<=256,out:=λ(d,s,_)=>[.p B9 (LB d s)] }
theorem A0N:Af Tryz.prog 155 jN:=by
 refine fK [0,1,4,5,6,7,8,9,10,14,20,36,45,56] Tryz.func155 Tryz.ntmps155 (AF MN (AF G2 (AF RG AH))) ?_;rintro w0 O0 ⟨d,s,u⟩ b ⟨⟨Q,G⟩,-⟩ ⟨O,z⟩;have z:d.length<=256:=z;simp only[jN,AM];repeat'(first|exact trivial|refine eS rfl ?_|refine rX b ?_ ?_|refine rC ?_ ?_<;>intro a<;>try(cases a;done))
 ·have h1:LB d s=[]:=by unfold LB;rw[BY a]
  exact fI b [.tmp 4] (by rw[h1];exact eR)
 ·have h1:LB d s=KH (IP d d.length 0 [s]):=by unfold LB;rw[At (ABC.2 a)]
  have F:ZY d [s]:=⟨λx y=>by
   have:x=s:=by simpa using y
   rw[this];exact a,by simp⟩
  refine AG (ι:={x:Nat×List ByteArray//x.1<=x.2.length/\ZY d x.2/\IP d (d.length-x.1) x.1 x.2=IP d d.length 0 [s]}) (λx=>⟨[(0,.p FP d),(1,.p T9 s),(5,.sr 16 T9 0 x.1.2.length),(6,.p (.int .i64) (x.1.1:Int))],[(16,.arr 9 T9 x.1.2)]⟩) (λx=>d.length-x.1.1) ⟨(0,[s]),by simp,F,rfl⟩ (eW [(16,.nm 16)]) (λx=>?_)
  ·obtain⟨⟨i,o⟩,hi,c,t⟩:=x;simp only at hi c t;have U:=c.len;simp only;repeat'(first|exact trivial|refine eS rfl ?_|refine rX b ?_ ?_|refine rC ?_ ?_<;>intro a<;>try(cases a;done))
   ·have q:i<o.length:=by exact eV
    have A:=c.decl _ (AD o ByteArray.empty q);refine⟨a,A,?_⟩;rcases DU d (o.getD i ByteArray.empty) with g|⟨_,g,_⟩
    ·omega
    ·exact g
   ·have q:i<o.length:=by exact eV
    have A:=c.decl _ (AD o ByteArray.empty q);have K:=cX O (o.getD i ByteArray.empty);have C:IP d (d.length-(i+1)) (i+1) ((MR d (o.getD i ByteArray.empty)).foldl KG o)=IP d d.length 0 [s]:=by
     rw[<-t];obtain⟨m,B⟩:∃m,d.length-i=m+1:=⟨d.length-i-1,by omega⟩;have H:d.length-(i+1)=m:=by omega
     rw[B,H];show _=if i<o.length then IP d m (i+1) ((MR d (o.getD i ByteArray.empty)).foldl KG o) else o
     rw[BY q]
    have M:(MR d (o.getD i ByteArray.empty)).length<=AO:=by
     rcases DU d (o.getD i ByteArray.empty) with g|⟨_,g,_⟩
     ·omega
     ·exact(G _ (AD d d0 (k:=(Ao d (o.getD i ByteArray.empty)).toNat) (by omega))).2.1.1
    have N:(List.getD d (Ao d (o.getD i ByteArray.empty)).toNat (ByteArray.empty,[],[])).2.1=MR d (o.getD i ByteArray.empty):=rfl;rw[N];generalize MR d (o.getD i ByteArray.empty)=sup at *;simp only[AO]at M;refine AG (ι:={k:Nat//k<=sup.length}) (λk=>⟨[(0,.p FP d),(1,.p T9 s),(5,.sr 16 T9 0 ((sup.take k.1).foldl KG o).length),(6,.p (.int .i64) (i:Int)),(7,.p B9 sup),(8,.p (.int .i64) (k.1:Int))],[(16,.arr 9 T9 ((sup.take k.1).foldl KG o))]⟩) (λk=>sup.length-k.1) ⟨0,Is _⟩ (AC [(16,.nm 16)] rfl rfl ?_ ?_) (λk=>?_)
    ·refine eM ?_;rfl
    ·refine eM ?_;rfl
    ·obtain⟨k,hk⟩:=k;have w:=cW (l:=sup.take k) (o:=o) (λx y=>K x (AAT y)) c;have S:=w.1.len;have E:=λh:k<sup.length=>E4 KG sup ByteArray.empty o h;simp only;generalize D:(sup.take k).foldl KG o=n at *;repeat'(first|exact trivial|refine eS rfl ?_|refine AB ?_|refine rX b ?_ ?_|refine rC ?_ ?_<;>intro a<;>try(cases a;done))
     ·exact a
     ·refine⟨by exact eV,?_⟩;simp only[AO];dsimp only[Ty.den]at *;omega
     ·exact eV
     ·have f:k<sup.length:=by exact eV
      have e:=E f;have r:KG n (sup.getD k ByteArray.empty)=n++[sup.getD k ByteArray.empty]:=by unfold KG;rw[At (by rw[a];simp)]
      rw[r]at e;refine⟨⟨k+1,by omega⟩,by simp only;omega,AC [(16,.nm 16)] rfl rfl ?_ ?_⟩
      ·simp only[e];exact eN
      ·simp only[e];exact eN
     ·exact eV
     ·have f:k<sup.length:=by exact eV
      have e:=E f;have r:KG n (sup.getD k ByteArray.empty)=n:=by unfold KG;rw[BY a]
      rw[r]at e;refine⟨⟨k+1,by omega⟩,by simp only;omega,AC [(16,.nm 16)] rfl rfl ?_ ?_⟩
      ·simp only[e];exact eN
      ·simp only[e];exact eN
     ·exact eV
     ·have f:sup.take k=sup:=An (by exact eV);rw[f]at D;rw[D]at C;have J:=w.1;have T:=w.2;exact⟨⟨(i+1,n),by simp only;omega,J,C⟩,by simp only;omega,eW [(16,.nm 16)]⟩
   ·have I:o=IP d d.length 0 [s]:=by
     rw[<-t];cases B:d.length-i with
     | zero=>rfl
     | succ m =>
      show _=if i<o.length then _ else o
      rw[At (by exact eV)]
    rw[<-I]at h1;refine AG (ι:={j:Nat//j<=o.length}) (λj=>⟨[(0,.p FP d),(5,.sr 16 T9 0 o.length),(9,.p B9 ((o.take j.1).foldl Ea [])),(10,.p (.int .i64) (j.1:Int))],[(16,.arr 9 T9 o)]⟩) (λj=>o.length-j.1) ⟨0,Is _⟩ (AC [(16,.nm 16)] rfl rfl ?_ ?_) (λj=>?_)
    ·exact eN
    ·refine eM ?_;rfl
    ·obtain⟨j,R⟩:=j;have L:=λh:j<o.length=>E4 Ea o ByteArray.empty [] h;simp only;repeat'(first|exact trivial|refine eS rfl ?_|refine AB ?_|refine rX b ?_ ?_|refine rC ?_ ?_<;>intro a<;>try(cases a;done))
     ·refine⟨a,?_⟩;have:=Xp (o.take j);have P:=AAL j o;unfold KH at this;dsimp only[Ty.den]at *;omega
     ·exact eV
     ·have v:j<o.length:=by exact eV
      have e:=L v;refine⟨⟨j+1,by omega⟩,by simp only;omega,AC [(16,.nm 16)] rfl rfl ?_ ?_⟩
      ·exact eN
      ·simp only[e];exact eN
     ·have v:o.take j=o:=An (by exact eV);rw[v];exact fI b [.tmp 4] (by rw[h1];unfold KH;exact eR)
end
section
attribute [local go_sem] OO Jk ZQ
def FK (s:ByteArray) (o:List ByteArray) (x:AI):List ByteArray:=if (AX x.2.1 s&&!AX o x.1)=true then o++[x.1] else o
def Cm (d:List AI):Nat->Nat->List ByteArray->List ByteArray
 | 0,_,o=>o
 | n+1,i,o=>if i<o.length then Cm d n (i+1) (d.foldl (FK (o.getD i ByteArray.empty)) o) else o
def Cn (d:List AI) (s:ByteArray):List ByteArray:=if Ao d s<0 then [] else KH (Cm d d.length 0 [s])
theorem Uu (s:ByteArray):∀(l:List AI) (k:Nat) (x:AI),x∈l->Ac x.1 s=true->0<=Cs s k l
 | y :: l,k,x,a,h=>by
  simp only[Cs];split
  ·omega
  ·rename_i b;rcases By.1 a with rfl|a
   ·exact absurd h b
   ·exact Uu s l (k+1) x a h
theorem Db {d:List AI} {x:AI} (a:x∈d):0<=Ao d x.1:=Uu x.1 d 0 x a (Ct _)
theorem A4Y {d:List AI} {o:List ByteArray} (h:ZY d o) (s:ByteArray) {x:AI} (b:x∈d):ZY d (FK s o x):=by
 unfold FK;split
 ·rename_i a;rw[As,dO]at a;have:=sA h (Db b);unfold KG at this
  rwa [At (by rw[a.2];simp)]at this
 ·exact h
theorem Uv {d:List AI} (s:ByteArray):∀ {l:List AI} {o:List ByteArray},(∀x∈l,x∈d)->ZY d o->ZY d (l.foldl (FK s) o)/\o.length<=(l.foldl (FK s) o).length
 | [],o,_,h=>⟨h,NO _⟩
 | x :: l,o,a,h=>by
  obtain⟨b,c⟩:=Uv s (l:=l) (λy e=>a y (by simp[e])) (A4Y h s (a x (by simp)));refine⟨b,Qo ?_ c⟩;unfold FK;split<;>simp
theorem RK (s:ByteArray) {i:Nat}:∀ {l:List AI} {o:List ByteArray},i<o.length->(l.foldl (FK s) o).getD i ByteArray.empty=o.getD i ByteArray.empty
 | [],_,_=>rfl
 | x :: l,o,h=>by
  have a:i<(FK s o x).length/\(FK s o x).getD i ByteArray.empty=o.getD i ByteArray.empty:=by
   unfold FK;split
   ·refine⟨by rw[GO];omega,?_⟩;simp only[AS];rw[AAo h]
   ·exact⟨h,rfl⟩
  rw[TO,RK s a.1,a.2]
def ZZ:Ae:={ ins:=[FP,T9],pre:=λ(d,_,_)=>List.length d<=256,out:=λ(d,s,_)=>[.p B9 (Cn d s)] }
attribute [local go_sem] ZZ
theorem A0O:Af Tryz.prog 130 ZZ:=by
 refine fK [0,1,4,5,6,7,8,9,13,19,25,47,59] Tryz.func130 Tryz.ntmps130 (AF MN (AF G2 (AF RG AH))) ?_;rintro w0 O0 ⟨d,s,u⟩ b-y;have y:d.length<=256:=y;simp only[ZZ,AM];repeat'(first|exact trivial|refine eS rfl ?_|refine rX b ?_ ?_|refine rC ?_ ?_<;>intro a<;>try(cases a;done))
 ·have h1:Cn d s=[]:=by unfold Cn;rw[BY a]
  exact fI b [.tmp 4] (by rw[h1];exact eR)
 ·have h1:Cn d s=KH (Cm d d.length 0 [s]):=by unfold Cn;rw[At (ABC.2 a)]
  have F:ZY d [s]:=⟨λx v=>by
   have:x=s:=by simpa using v
   rw[this];exact a,by simp⟩
  refine AG (ι:={x:Nat×List ByteArray//x.1<=x.2.length/\ZY d x.2/\Cm d (d.length-x.1) x.1 x.2=Cm d d.length 0 [s]}) (λx=>⟨[(0,.p FP d),(5,.sr 15 T9 0 x.1.2.length),(6,.p (.int .i64) (x.1.1:Int))],[(15,.arr 9 T9 x.1.2)]⟩) (λx=>d.length-x.1.1) ⟨(0,[s]),by simp,F,rfl⟩ (eW [(15,.nm 15)]) (λx=>?_)
  ·obtain⟨⟨i,o⟩,hi,q,r⟩:=x;simp only at hi q r;have P:=q.len;simp only;repeat'(first|exact trivial|refine eS rfl ?_|refine rX b ?_ ?_|refine rC ?_ ?_<;>intro a<;>try(cases a;done))
   ·have z:i<o.length:=by exact eV
    have B:Cm d (d.length-(i+1)) (i+1) (d.foldl (FK (o.getD i ByteArray.empty)) o)=Cm d d.length 0 [s]:=by
     rw[<-r];obtain⟨m,A⟩:∃m,d.length-i=m+1:=⟨d.length-i-1,by omega⟩;have G:d.length-(i+1)=m:=by omega
     rw[A,G];show _=if i<o.length then Cm d m (i+1) (d.foldl (FK (o.getD i ByteArray.empty)) o) else o
     rw[BY z]
    refine AG (ι:={k:Nat//k<=d.length}) (λk=>⟨[(0,.p FP d),(5,.sr 15 T9 0 ((d.take k.1).foldl (FK (o.getD i ByteArray.empty)) o).length),(6,.p (.int .i64) (i:Int)),(7,.p (.int .i64) (k.1:Int))],[(15,.arr 9 T9 ((d.take k.1).foldl (FK (o.getD i ByteArray.empty)) o))]⟩) (λk=>d.length-k.1) ⟨0,Is _⟩ (AC [(15,.nm 15)] rfl rfl ?_ ?_) (λk=>?_)
    ·refine eM ?_;rfl
    ·refine eM ?_;rfl
    ·obtain⟨k,hk⟩:=k;have g:=Uv (o.getD i ByteArray.empty) (l:=d.take k) (o:=o) (λx v=>AAT v) q;have N:=g.1.len;have E:=λh:k<d.length=>E4 (FK (o.getD i ByteArray.empty)) d d0 o h;have D:((d.take k).foldl (FK (o.getD i ByteArray.empty)) o).getD i ByteArray.empty=o.getD i ByteArray.empty:=RK _ z;simp only;generalize C:(d.take k).foldl (FK (o.getD i ByteArray.empty)) o=f at *;repeat'(first|exact trivial|refine eS rfl ?_|refine AB ?_|refine rX b ?_ ?_|refine rC ?_ ?_<;>intro a<;>try(cases a;done))
     ·have M:=g.2;refine⟨a,?_,λ_=>a⟩;dsimp only[Ty.den]at *;omega
     ·refine⟨by assumption,?_⟩;simp only[AO];dsimp only[Ty.den]at *;omega
     ·exact eV
     ·have c:k<d.length:=by exact eV
      have e:=E c;rw[D]at a;have n:FK (o.getD i ByteArray.empty) f (d.getD k d0)=f++[(d.getD k d0).1]:=by
       unfold FK;rw[BY (by rw[As,dO];exact a)]
      rw[n]at e;refine⟨⟨k+1,by omega⟩,by simp only;omega,AC [(15,.nm 15)] rfl rfl ?_ ?_⟩
      ·simp only[e];exact eN
      ·simp only[e];exact eN
     ·exact eV
     ·have c:k<d.length:=by exact eV
      have e:=E c;rw[D]at a;have n:FK (o.getD i ByteArray.empty) f (d.getD k d0)=f:=by
       unfold FK;rw[At];rw[As,dO];rintro⟨h1,w⟩;rw[a h1]at w;cases w
      rw[n]at e;refine⟨⟨k+1,by omega⟩,by simp only;omega,AC [(15,.nm 15)] rfl rfl ?_ ?_⟩
      ·simp only[e];exact eN
      ·simp only[e];exact eN
     ·exact eV
     ·have c:d.take k=d:=An (by exact eV);rw[c]at C;rw[C]at B;have I:=g.1;have O:=g.2;exact⟨⟨(i+1,f),by simp only;omega,I,B⟩,by simp only;omega,eW [(15,.nm 15)]⟩
   ·have H:o=Cm d d.length 0 [s]:=by
     rw[<-r];cases A:d.length-i with
     | zero=>rfl
     | succ m =>
      show _=if i<o.length then _ else o
      rw[At (by exact eV)]
    rw[<-H]at h1;refine AG (ι:={j:Nat//j<=o.length}) (λj=>⟨[(0,.p FP d),(5,.sr 15 T9 0 o.length),(8,.p B9 ((o.take j.1).foldl Ea [])),(9,.p (.int .i64) (j.1:Int))],[(15,.arr 9 T9 o)]⟩) (λj=>o.length-j.1) ⟨0,Is _⟩ (AC [(15,.nm 15)] rfl rfl ?_ ?_) (λj=>?_)
    ·exact eN
    ·refine eM ?_;rfl
    ·obtain⟨j,L⟩:=j;have J:=λh:j<o.length=>E4 Ea o ByteArray.empty [] h;simp only;repeat'(first|exact trivial|refine eS rfl ?_|refine AB ?_|refine rX b ?_ ?_|refine rC ?_ ?_<;>intro a<;>try(cases a;done))
     ·refine⟨a,?_⟩;have:=Xp (o.take j);have K:=AAL j o;unfold KH at this;dsimp only[Ty.den]at *;omega
     ·exact eV
     ·have t:j<o.length:=by exact eV
      have e:=J t;refine⟨⟨j+1,by omega⟩,by simp only;omega,AC [(15,.nm 15)] rfl rfl ?_ ?_⟩
      ·exact eN
      ·simp only[e];exact eN
     ·have t:o.take j=o:=An (by exact eV);rw[t];exact fI b [.tmp 4] (by rw[h1];unfold KH;exact eR)
end
section
attribute [local go_sem] OO ZQ jN Jk
def FL (d:List AI) (o:List ByteArray) (x:ByteArray):List ByteArray:=if 0<=Ao d x then Ea o x else o
def BV (d:List AI) (l:List ByteArray):List ByteArray:=l.foldl (FL d) []
theorem Jm (d:List AI) (l:List ByteArray):(BV d l).length<=l.length:=by
 have key:∀(l o:List ByteArray),(l.foldl (FL d) o).length<=o.length+l.length:=by
  intro l;induction l with
  | nil=>intro o;simp
  | cons x l a =>
   intro o;have h1:=a (FL d o x);have b:(FL d o x).length<=o.length+1:=by
    unfold FL;split
    ·exact MQ o x
    ·omega
   simp only[TO,OS];omega
 have:=key l [];simpa[BV] using this
def RL:Ae:={ ins:=[FP,B9],pre:=λ(_,l,_)=>List.length l<=100000,out:=λ(d,l,_)=>[.p B9 (BV d l)] }
attribute [local go_sem] RL
theorem cZ:Af Tryz.prog 154 RL:=by
 refine fK [0,1,4,5,6,10,19] Tryz.func154 Tryz.ntmps154 (AF MN (AF RG AH)) ?_;rintro w0 O0 ⟨d,l,u⟩ c-f;have f:l.length<=100000:=f;simp only[RL,AM];repeat'(first|exact trivial|refine eS rfl ?_|refine rX c ?_ ?_)
 refine AG (ι:={k:Nat//k<=l.length}) (λk=>⟨[(0,.p FP d),(1,.p B9 l),(5,.p B9 (BV d (l.take k.1))),(6,.p (.int .i64) (k.1:Int))],[]⟩) (λk=>l.length-k.1) ⟨0,Is _⟩ (AC [] rfl rfl ?_ ?_) (λk=>?_)
 ·exact eN
 ·refine eM ?_;rfl
 ·obtain⟨k,hk⟩:=k;have hn:=Jm d (l.take k);have g:=AAL k l;have hs:=λh:k<l.length=>E4 (FL d) l ByteArray.empty [] h;simp only;repeat'(first|exact trivial|refine eS rfl ?_|refine AB ?_|refine rX c ?_ ?_|refine rC ?_ ?_<;>intro b<;>try(cases b;done))
  ·exact b
  ·exact⟨by assumption,by omega⟩
  ·exact eV
  ·have a:k<l.length:=by exact eV
   have e:BV d (l.take (k+1))=FL d (BV d (l.take k)) (l.getD k ByteArray.empty):=hs a;unfold FL at e;rw[BY b]at e;refine⟨⟨k+1,by omega⟩,by simp only;omega,AC [] rfl rfl ?_ ?_⟩
   ·exact eN
   ·simp only[e];exact eN
  ·exact eV
  ·have a:k<l.length:=by exact eV
   have e:BV d (l.take (k+1))=FL d (BV d (l.take k)) (l.getD k ByteArray.empty):=hs a;unfold FL at e;rw[At (Int.not_le.2 b)]at e;refine⟨⟨k+1,by omega⟩,by simp only;omega,AC [] rfl rfl ?_ ?_⟩
   ·exact eN
   ·simp only[e];exact eN
  ·have a:l.take k=l:=An (by exact eV);rw[a];exact fI c [.tmp 4]
def sB (d:List AI) (all:List ByteArray) (i:Nat) (k:Nat):Bool:=(k:Int)==(i:Int)||!AX (LB d (all.getD i ByteArray.empty)) (all.getD k ByteArray.empty)
def Ps (d:List AI) (all:List ByteArray) (i n:Nat):Bool:=(List.range n).all (sB d all i)
def Pt (d:List AI) (all:List ByteArray) (n:Nat):List ByteArray:=((List.range n).filter λi=>Ps d all i all.length).map λi=>all.getD i ByteArray.empty
def Ay (d:List AI) (l:List ByteArray):List ByteArray:=Pt d (BV d l) (BV d l).length
theorem v5 (d:List AI) (all:List ByteArray) (n:Nat):Pt d all (n+1)=Pt d all n++if Ps d all n all.length=true then [all.getD n ByteArray.empty] else []:=by
 unfold Pt;rw[AAq,ABQ,AAs]
 congr 1
 rw[AAE,ACu];split<;>rfl
theorem c5 (d:List AI) (all:List ByteArray) (n:Nat):(Pt d all n).length<=n:=by
 unfold Pt;rw[On];exact Qo (AB9 _ _) (by simp)
theorem jO (d:List AI) (all:List ByteArray) (i n:Nat):Ps d all i (n+1)=(Ps d all i n&&sB d all i n):=by
 unfold Ps;rw[AAq,ACb];simp
def MS:Ae:={ ins:=[FP,B9],pre:=λ(d,l,_)=>Pq d/\List.length d<=256/\List.length l<=100000,out:=λ(d,l,_)=>[.p B9 (Ay d l)] }
attribute [local go_sem] MS
theorem Uw:Af Tryz.prog 136 MS:=by
 refine fK [0,1,4,5,6,7,8,9,10,17,29,47] Tryz.func136 Tryz.ntmps136 (AF cZ (AF A0N (AF G2 AH))) ?_;rintro w0 O0 ⟨d,l,u⟩ c-⟨n,f,g⟩;have f:d.length<=256:=f;have g:l.length<=100000:=g;have m:Ay d l=Pt d (BV d l) (BV d l).length:=rfl;have o:=Jm d l;simp only[MS,AM];repeat'(first|exact trivial|refine eS rfl ?_|refine rX c ?_ ?_)
 ·exact g
 ·rw[m];generalize BV d l=all at *;refine AG (ι:={i:Nat//i<=all.length}) (λi=>⟨[(0,.p FP d),(5,.sr 54 T9 0 (Pt d all i.1).length),(6,.p B9 all),(7,.p (.int .i64) (i.1:Int))],[(54,.arr 9 T9 (Pt d all i.1))]⟩) (λi=>all.length-i.1) ⟨0,Is _⟩ (AC [(54,.nil)] rfl rfl ?_ ?_) (λi=>?_)
  ·refine eM ?_;rfl
  ·refine eM ?_;rfl
  ·obtain⟨i,hi⟩:=i;have q:=c5 d all i;have b:=v5 d all i;simp only;repeat'(first|exact trivial|refine eS rfl ?_|refine rX c ?_ ?_|refine rC ?_ ?_<;>intro a<;>try(cases a;done))
   ·exact⟨a,n,f⟩
   ·have h:i<all.length:=by exact eV
    refine AG (ι:={k:Nat//k<=all.length}) (λk=>⟨[(0,.p FP d),(5,.sr 54 T9 0 (Pt d all i).length),(6,.p B9 all),(7,.p (.int .i64) (i:Int)),(8,.p B9 (LB d (all.getD i ByteArray.empty))),(9,.p .bool (Ps d all i k.1)),(10,.p (.int .i64) (k.1:Int))],[(54,.arr 9 T9 (Pt d all i))]⟩) (λk=>all.length-k.1) ⟨0,Is _⟩ (AC [(54,.nm 54)] rfl rfl ?_ ?_) (λk=>?_)
    ·exact eN
    ·refine eM ?_;rfl
    ·obtain⟨k,hk⟩:=k;have j:=jO d all i k;simp only;repeat'(first|exact trivial|refine eS rfl ?_|refine AB ?_|refine rX c ?_ ?_|refine rC ?_ ?_<;>intro a<;>try(cases a;done))
     ·exact λ_=>a
     ·exact eV
     ·have e:k<all.length:=by exact eV
      refine⟨⟨k+1,by omega⟩,by simp only;omega,AC [(54,.nm 54)] rfl rfl ?_ ?_⟩
      ·exact eN
      ·simp only[j];unfold sB;exact eN
     ·refine⟨by assumption,?_⟩;simp only[AO];omega
     ·exact eV
     ·have e:k=all.length:=by exact eV
      subst e;rw[a,BY rfl]at b;refine⟨⟨i+1,by omega⟩,by simp only;omega,AC [(54,.nm 54)] rfl rfl ?_ ?_⟩
      ·simp only[b];exact eN
      ·simp only[b];exact eN
     ·exact eV
     ·have e:k=all.length:=by exact eV
      subst e;rw[a,At (by simp),AAu]at b;refine⟨⟨i+1,by omega⟩,by simp only;omega,AC [(54,.nm 54)] rfl rfl ?_ ?_⟩
      ·simp only[b];exact eN
      ·simp only[b];exact eN
   ·have h:i=all.length:=by exact eV
    subst h;refine Gc [54] ?_;exact fI c [.tmp 4]
end
section
attribute [local go_sem] K8
def v6 (b:List Int) (x:Int):List Int:=b.set (x.tdiv 64).toNat (CA .or .u64 (b.getD (x.tdiv 64).toNat 0) (Sx .u64 1 (x.tmod 64)))
def yU (l:List Int):List Int:=l.foldl v6 (List.replicate 64 0)
def okB (x:Int):Bool:=!(decide (x<0)||decide (4095<x))
def ofF (l:List Int):List Int×Int:=if l.all okB=true then (BJ (yU l),0) else ([],2)
theorem Pu (l:List Int):(yU l).length=64:=by
 have key:∀(l b:List Int),(l.foldl v6 b).length=b.length:=by
  intro l;induction l with
  | nil=>intro b;rfl
  | cons x l a =>
   intro b;rw[TO,a];simp[v6]
 unfold yU;rw[key];simp
def ofS:Ae:={ ins:=[Es],pre:=λ_=>True,out:=λ(l,_)=>[.p EL (ofF l).1,.p Wq (ofF l).2] }
theorem A9X:Af Tryz.prog 132 ofS:=by
 refine fK [0,2,3,4,5,10,24] Tryz.func132 Tryz.ntmps132 (AF NB AH) ?_;rintro w0 O0 ⟨l,u⟩ c ⟨⟨g,-⟩,-⟩ -;simp only[AO]at g;simp only[ofS,AM];repeat'(first|exact trivial|refine eS rfl ?_|refine rX c ?_ ?_)
 ·simp only[AO];omega
 ·refine AG (ι:={k:Nat//k<=l.length/\(l.take k).all okB=true}) (λk=>⟨[(0,.p Es l),(4,.sr 6 Pn 0 (yU (l.take k.1)).length),(5,.p (.int .i64) (k.1:Int))],[(6,.arr 155 Pn (yU (l.take k.1)))]⟩) (λk=>l.length-k.1) ⟨0,Is _,rfl⟩ (AC [(6,.nm 6)] rfl rfl ?_ ?_) (λk=>?_)
  ·refine eM ?_;rfl
  ·refine eM ?_;rfl
  ·obtain⟨k,hk,hf⟩:=k;have i:=Pu (l.take k);have hs:∀h:k<l.length,yU (l.take (k+1))=v6 (yU (l.take k)) (l.getD k 0):=λh=>E4 v6 l 0 _ h;simp only;repeat'(first|exact trivial|refine eS rfl ?_|refine AB ?_|refine rX c ?_ ?_|refine rC ?_ ?_<;>intro a<;>try(cases a;done))
   ·exact⟨a,λ_=>a⟩
   ·have b:k<l.length:=by exact eV
    have h1:ofF l=([],2):=by
     unfold ofF;rw[At];intro h;have:=IN.1 h _ (AD l 0 b);unfold okB at this;rw[dO,AB3,To,To]at this;rcases a with h|h
     ·exact this.1 h
     ·exact this.2 h
    exact fI c [.tmp 2,.tmp 3] (by rw[h1];exact eR)
   ·obtain⟨h0,h1⟩:=a;have d:Int.tdiv (l.getD k 0) 64=l.getD k 0 / 64:=AB5 h0;have f:Int.tmod (l.getD k 0) 64=l.getD k 0 % 64:=ABY h0;rw[d,f,i];refine⟨?_,⟨by decide,?_,?_⟩,?_,⟨by decide,?_,?_⟩,⟨?_,?_⟩,?_,⟨by decide,?_,?_⟩,⟨?_,?_⟩,?_,?_,?_⟩<;>exact eV
   ·exact eV
   ·have b:k<l.length:=by exact eV
    have e:=hs b;refine⟨⟨k+1,by omega,?_⟩,by simp only;omega,AC [(6,.nm 6)] rfl rfl ?_ ?_⟩
    ·rw[Ge l 0 _ b,hf,ACx];unfold okB;rw[dO,AB3,To,To];exact⟨ABC.2 a.1,ABC.2 a.2⟩
    ·simp only[e];refine eM ?_;rfl
    ·simp only[e];refine eM ?_;rw[<-e,Pu,Pu]
   ·have b:l.take k=l:=An (by exact eV);rw[b]at hf ⊢;have h1:ofF l=(BJ (yU l),0):=by unfold ofF;rw[BY hf]
    have j:=Pu l;refine Gc [6] ?_;repeat'(first|refine eS rfl ?_|refine rX c ?_ ?_)
    ·rw[j];decide
    ·exact fI c [.tmp 2,.tmp 3] (by rw[h1];exact eR)
end
section
attribute [local go_sem] Ut Po
def jP (l:List (List Int)) (b:List Int):Bool:=l.any λx=>GN x b
def A75:Ae:={ ins:=[S4,EL],pre:=λ_=>True,out:=λ(l,b,_)=>[.p .bool (jP l b)],lend:=true }
theorem A76:Af Tryz.prog 133 A75:=by
 refine fK [0,1,4,5,9,17] Tryz.func133 Tryz.ntmps133 (AF ZS AH) ?_;rintro w0 O0 ⟨l,n,u⟩ a ⟨⟨e,-⟩,-⟩ -;simp only[AO]at e;simp only[A75,AM];repeat'(first|exact trivial|refine eS rfl ?_|refine rX a ?_ ?_)
 refine AG (ι:={k:Nat//k<=l.length/\(l.take k).any (λx=>GN x n)=false}) (λk=>⟨[(0,.p S4 l),(1,.p EL n),(5,.p (.int .i64) (k.1:Int))],[]⟩) (λk=>l.length-k.1) ⟨0,by simp⟩ (eW []) (λk=>?_)
 ·obtain⟨k,hk,c⟩:=k;repeat'(first|exact trivial|refine eS rfl ?_|refine AB ?_|refine rX a ?_ ?_|refine rC ?_ ?_<;>intro b<;>try(cases b;done))
  ·exact eV
  ·have d:k<l.length:=by exact eV
   have h1:jP l n=true:=JM l [] _ d b;exact fI a [.tmp 4] (by rw[h1];exact eR)
  ·exact eV
  ·have d:k<l.length:=by exact eV
   refine⟨⟨k+1,by exact eV,?_⟩,by simp only;exact eV,AC [] rfl rfl ?_ ?_⟩
   ·rw[NA l [] _ d,c];exact b
   ·exact eN
   ·exact eN
  ·have hk:l.take k=l:=An (by exact eV);rw[hk]at c;have h1:jP l n=false:=c;exact fI a [.tmp 4] (by rw[h1];exact eR)
abbrev AQ:=ByteArray×List Int
abbrev c0:AQ:=(ByteArray.empty,[])
def Lg (l:List AQ) (i j:Int):Bool:=FQ (l.getD j.toNat c0).2 (l.getD i.toNat c0).2
def sC:Ae:={ ins:=[KF,T3,T3],pre:=λ(l,i,j,_)=>((0:Int)<=i/\i<(List.length l:Int))/\((0:Int)<=j/\j<(List.length l:Int))/\(∀x∈(l:List AQ),x.2.length<=100000),out:=λ(l,i,j,_)=>[.p .bool (Lg l i j)],lend:=true }
theorem sD:Af Tryz.prog 103 sC:=by
 refine fK [0,1,2,6] Tryz.func103 Tryz.ntmps103 (AF Xn AH) ?_;rintro w0 O0 ⟨l,i,j,u⟩ a-⟨hi,b,c⟩;simp only[sC,AM];repeat'(first|exact trivial|refine eS rfl ?_|refine rX a ?_ ?_)
 ·exact⟨b,hi,c _ (AD (l:List AQ) c0 (by exact eV))⟩
 ·exact fI a [.tmp 6] (by unfold Lg;exact eR)
end
section
attribute [local go_sem] Ut
def MT (s:ByteArray):Nat->List AQ->Int
 | _,[]=>-1
 | k,x :: l=>if Ac x.1 s=true then (k:Int) else MT s (k+1) l
def BK (l:List AQ) (s:ByteArray):Int:=MT s 0 l
theorem Xr (s:ByteArray) (l:List AQ) {k:Nat} (h:k<l.length):MT s k (l.drop k)=if Ac (l.getD k c0).1 s=true then (k:Int) else MT s (k+1) (l.drop (k+1)):=by
 rw[Of h];have e:l.getD k c0=l[k]:=by simp[AS,h]
 rw[e];rfl
def TT:Ae:={ ins:=[KF,T9],pre:=λ_=>True,out:=λ(l,s,_)=>[.p T3 (BK l s)],lend:=true }
theorem Xs:Af Tryz.prog 105 TT:=by
 refine fK [0,1,4,5,9,18] Tryz.func105 Tryz.ntmps105 AH ?_;rintro w0 O0 ⟨l,s,u⟩ c ⟨⟨d,-⟩,-⟩ -;simp only[AO]at d;simp only[TT,AM];repeat'(first|exact trivial|refine eS rfl ?_|refine rX c ?_ ?_)
 refine AG (ι:={k:Nat//k<=l.length/\MT s k (l.drop k)=BK l s}) (λk=>⟨[(0,.p KF l),(1,.p T9 s),(5,.p (.int .i64) (k.1:Int))],[]⟩) (λk=>l.length-k.1) ⟨0,Is _,rfl⟩ (eW []) (λk=>?_)
 ·obtain⟨k,hk,hf⟩:=k;simp only;repeat'(first|exact trivial|refine eS rfl ?_|refine AB ?_|refine rX c ?_ ?_|refine rC ?_ ?_<;>intro b<;>try(cases b;done))
  ·exact b
  ·have a:k<l.length:=by exact eV
   rw[Xr s l a,BY b]at hf;exact fI c [.tmp 4] (by rw[<-hf];exact eR)
  ·exact eV
  ·have a:k<l.length:=by exact eV
   rw[Xr s l a,At (by rw[b];simp)]at hf;exact⟨⟨k+1,by omega,hf⟩,by simp only;omega,eW []⟩
  ·have a:l.drop k=[]:=IF (by exact eV);rw[a]at hf;exact fI c [.tmp 4] (by rw[<-hf];first|exact eR|refine cG ?_;rfl)
end
section
attribute [local go_sem] Ut K8
def Pv (s:List Int):Nat->List AQ->Int
 | _,[]=>-1
 | k,x :: l=>if GN x.2 s=true then (k:Int) else Pv s (k+1) l
def HL (l:List AQ) (b:List Int):Int:=Pv (BJ b) 0 l
theorem Ux (s:List Int) (l:List AQ) {k:Nat} (h:k<l.length):Pv s k (l.drop k)=if GN (l.getD k c0).2 s=true then (k:Int) else Pv s (k+1) (l.drop (k+1)):=by
 rw[Of h];have e:l.getD k c0=l[k]:=by simp[AS,h]
 rw[e];rfl
def jQ:Ae:={ ins:=[KF,EL],pre:=λ(_,b,_)=>List.length b<=100000,out:=λ(l,b,_)=>[.p T3 (HL l b)],lend:=true }
theorem A0P:Af Tryz.prog 96 jQ:=by
 refine fK [0,1,4,5,6,12,21] Tryz.func96 Tryz.ntmps96 (AF NB (AF ZS AH)) ?_;rintro w0 O0 ⟨l,b,u⟩ d ⟨⟨g,-⟩,-⟩ e;simp only[AO]at g;simp only[jQ,AM];repeat'(first|exact trivial|refine eS rfl ?_|refine rX d ?_ ?_)
 ·exact e
 ·have f:HL l b=Pv (BJ b) 0 l:=rfl;rw[f];generalize BJ b=s at *;refine AG (ι:={k:Nat//k<=l.length/\Pv s k (l.drop k)=Pv s 0 l}) (λk=>⟨[(0,.p KF l),(5,.p EL s),(6,.p (.int .i64) (k.1:Int))],[]⟩) (λk=>l.length-k.1) ⟨0,Is _,rfl⟩ (eW []) (λk=>?_)
  ·obtain⟨k,hk,hf⟩:=k;simp only;repeat'(first|exact trivial|refine eS rfl ?_|refine AB ?_|refine rX d ?_ ?_|refine rC ?_ ?_<;>intro c<;>try(cases c;done))
   ·exact c
   ·have a:k<l.length:=by exact eV
    rw[Ux s l a,BY c]at hf;exact fI d [.tmp 4] (by rw[<-hf];exact eR)
   ·exact eV
   ·have a:k<l.length:=by exact eV
    rw[Ux s l a,At (by rw[c];simp)]at hf;exact⟨⟨k+1,by omega,hf⟩,by simp only;omega,eW []⟩
   ·have a:l.drop k=[]:=IF (by exact eV);rw[a]at hf;exact fI d [.tmp 4] (by rw[<-hf];first|exact eR|refine cG ?_;rfl)
end
section
attribute [local go_sem] Ut
def c6 (s:ByteArray):List (ByteArray×ByteArray)->ByteArray×Bool
 | []=>(ByteArray.empty,false)
 | x :: l=>if Ac x.1 s=true then (x.2,true) else c6 s l
def DH (x:AI) (s:ByteArray):ByteArray×Bool:=c6 s x.2.2
theorem Xt (s:ByteArray) (l:List (ByteArray×ByteArray)) {k:Nat} (h:k<l.length):c6 s (l.drop k)=if Ac (l.getD k (ByteArray.empty,ByteArray.empty)).1 s=true then ((l.getD k (ByteArray.empty,ByteArray.empty)).2,true) else c6 s (l.drop (k+1)):=by
 rw[Of h];have e:l.getD k (ByteArray.empty,ByteArray.empty)=l[k]:=by simp[AS,h]
 rw[e];rfl
def Za:Ae:={ ins:=[vQ,T9],pre:=λ_=>True,out:=λ(x,s,_)=>[.p T9 (DH x s).1,.p .bool (DH x s).2],lend:=true }
theorem c7:Af Tryz.prog 123 Za:=by
 refine fK [0,1,2,4,5,6,11,21] Tryz.func123 Tryz.ntmps123 AH ?_;rintro w0 O0 ⟨⟨nm,sup,a⟩,s,u⟩ d ⟨⟨-,-,f,-⟩,-⟩ -;simp only[AO]at f;simp only[Za,AM];repeat'(first|exact trivial|refine eS rfl ?_|refine rX d ?_ ?_)
 have e:({ data:=#[] }:ByteArray).size<=AO:=by decide
 rw[BY e];refine AG (ι:={k:Nat//k<=a.length/\c6 s (a.drop k)=DH (nm,sup,a) s}) (λk=>⟨[(1,.p T9 s),(2,.bp 2 [] 0),(6,.p (.int .i64) (k.1:Int))],[(2,.box 111 true [.p T9 nm,.p B9 sup,.p cK a])]⟩) (λk=>a.length-k.1) ⟨0,Is _,rfl⟩ (eW [(2,.nm 2)]) (λk=>?_)
 ·obtain⟨k,hk,hf⟩:=k;simp only;repeat'(first|exact trivial|refine eS rfl ?_|refine AB ?_|refine rX d ?_ ?_|refine rC ?_ ?_<;>intro c<;>try(cases c;done))
  ·exact c
  ·assumption
  ·have b:k<a.length:=by exact eV
   rw[Xt s a b,BY c]at hf;exact fI d [.tmp 4,.tmp 5] (by rw[<-hf];exact eR)
  ·exact eV
  ·have b:k<a.length:=by exact eV
   rw[Xt s a b,At (by rw[c];simp)]at hf;exact⟨⟨k+1,by omega,hf⟩,by simp only;omega,eW [(2,.nm 2)]⟩
  ·have b:a.drop k=[]:=IF (by exact eV);rw[b]at hf;rw[BY e];exact fI d [.tmp 4,.tmp 5] (by rw[<-hf];first|exact eR|refine cG ?_;exact⟨rfl,rfl⟩)
end
section
attribute [local go_sem] jM
def F8 (a b:AQ):Bool:=decide (((IK b.2).length:Int)<((IK a.2).length:Int))||((IK a.2).length:Int)==((IK b.2).length:Int)&&HW a.1 b.1
def Zb:Ae:={ ins:=[ZP,ZP],pre:=λ(a,b,_)=>List.length (a:AQ).2<=100000/\List.length (b:AQ).2<=100000,out:=λ(a,b,_)=>[.p .bool (F8 a b)],lend:=true }
theorem v7:Af Tryz.prog 102 Zb:=by
 refine fK [0,1,2,3,4,5,6] Tryz.func102 Tryz.ntmps102 (AF A0J AH) ?_;rintro w0 O0 ⟨⟨c,ac⟩,⟨e,d⟩,u⟩ a-⟨ha,b⟩;simp only[Zb,AM];repeat'(first|exact trivial|refine eS rfl ?_|refine rX a ?_ ?_)
 ·exact ha
 ·exact b
 ·exact fI a [.tmp 4] (by unfold F8;exact eR)
end
section
attribute [local go_sem] ZZ Jk ofS
def OT (low all:List ByteArray) (n:Nat):List Int:=((List.range n).filter λ(i:Nat)=>AX low (all.getD i ByteArray.empty)).map λ(i:Nat)=>(i:Int)
theorem v8 (low all:List ByteArray) (n:Nat):OT low all (n+1)=OT low all n++if AX low (all.getD n ByteArray.empty)=true then [(n:Int)] else []:=by
 unfold OT;rw[AAq,ABQ,AAs]
 congr 1
 rw[AAE,ACu];split<;>rfl
theorem A0Q (low all:List ByteArray) (n:Nat):(OT low all n).length<=n:=by
 unfold OT;rw[On];exact Qo (AB9 _ _) (by simp)
def Ew (d:List AI) (all:List ByteArray) (s:ByteArray):List Int:=(ofF (OT (Cn d s) all all.length)).1
def A0R:Ae:={ ins:=[FP,B9,T9],pre:=λ(d,l,_,_)=>List.length d<=256/\List.length l<=100000,out:=λ(d,l,s,_)=>[.p EL (Ew d l s)] }
theorem A50:Af Tryz.prog 99 A0R:=by
 refine fK [0,1,2,6,7,8,9,10,18,26] Tryz.func99 Tryz.ntmps99 (AF A0O (AF G2 (AF A9X AH))) ?_;rintro w0 O0 ⟨d,l,s,u⟩ b-⟨g,e⟩;have e:l.length<=100000:=e;have f:Ew d l s=(ofF (OT (Cn d s) l l.length)).1:=rfl;simp only[A0R,AM];repeat'(first|exact trivial|refine eS rfl ?_|refine rX b ?_ ?_)
 ·exact g
 ·rw[f];generalize Cn d s=low at *;refine AG (ι:={n:Nat//n<=l.length}) (λn=>⟨[(0,.p FP d),(1,.p B9 l),(2,.p T9 s),(7,.p B9 low),(8,.sr 30 T3 0 (OT low l n.1).length),(9,.p (.int .i64) (n.1:Int))],[(30,.arr 3 T3 (OT low l n.1))]⟩) (λn=>l.length-n.1) ⟨0,Is _⟩ (AC [(30,.nil)] rfl rfl ?_ ?_) (λn=>?_)
  ·refine eM ?_;rfl
  ·refine eM ?_;rfl
  ·obtain⟨n,hn⟩:=n;have h:=A0Q low l n;have hs:=v8 low l n;simp only;repeat'(first|exact trivial|refine eS rfl ?_|refine AB ?_|refine rX b ?_ ?_|refine rC ?_ ?_<;>intro a<;>try(cases a;done))
   ·exact a
   ·rw[a,BY rfl]at hs;simp only[AO];dsimp only[Ty.den]at *;omega
   ·exact eV
   ·have c:n<l.length:=by exact eV
    rw[a,BY rfl]at hs;refine⟨⟨n+1,by omega⟩,by simp only;omega,AC [(30,.nm 30)] rfl rfl ?_ ?_⟩
    ·simp only[hs];exact eN
    ·simp only[hs];exact eN
   ·exact eV
   ·have c:n<l.length:=by exact eV
    rw[a,At (by simp),AAu]at hs;refine⟨⟨n+1,by omega⟩,by simp only;omega,AC [(30,.nm 30)] rfl rfl ?_ ?_⟩
    ·simp only[hs];exact eN
    ·simp only[hs];exact eN
   ·have c:n=l.length:=by exact eV
    subst c;refine Gc [30] ?_;repeat'(first|exact trivial|refine eS rfl ?_|refine rX b ?_ ?_)
    exact fI b [.tmp 6]
end
section
attribute [local go_sem] ZQ
def Pw (o:List ByteArray) (f:ByteArray×ByteArray):List ByteArray:=Ea o f.1
def RM (o:List ByteArray) (x:AI):List ByteArray:=x.2.2.foldl Pw o
def BL (d:List AI):List ByteArray:=d.foldl RM []
theorem Xu (l:List (ByteArray×ByteArray)):∀o:List ByteArray,(l.foldl Pw o).length<=o.length+l.length:=by
 induction l with
 | nil=>intro o;simp
 | cons x l a =>
  intro o;have h1:=a (Pw o x);have b:(Pw o x).length<=o.length+1:=MQ o x.1;simp only[TO,OS];omega
theorem jR {d:List AI} (h:∀x∈d,x.2.2.length<=256):∀(l:List AI),(∀x∈l,x∈d)->∀o:List ByteArray,(l.foldl RM o).length<=o.length+256*l.length:=by
 intro l;induction l with
 | nil=>intro _ o;simp
 | cons x l c =>
  intro a o;have h1:=c (λy b=>a y (by simp[b])) (RM o x);have e:=Xu x.2.2 o;have f:=h x (a x (by simp));have g:(RM o x).length=(x.2.2.foldl Pw o).length:=rfl;simp only[TO,OS];omega
def Uy:Ae:={ ins:=[FP],pre:=λ(d,_)=>List.length d<=256/\(∀x∈(d:List AI),x.2.2.length<=256),out:=λ(d,_)=>[.p B9 (BL d)] }
theorem Uz:Af Tryz.prog 94 Uy:=by
 refine fK [0,2,3,4,5,9,19] Tryz.func94 Tryz.ntmps94 (AF RG AH) ?_;rintro w0 O0 ⟨d,u⟩ c-⟨f,m⟩;have f:d.length<=256:=f;simp only[Uy,AM];repeat'(first|exact trivial|refine eS rfl ?_|refine rX c ?_ ?_)
 refine AG (ι:={i:Nat//i<=d.length}) (λi=>⟨[(0,.p FP d),(3,.p B9 (BL (d.take i.1))),(4,.p (.int .i64) (i.1:Int))],[]⟩) (λi=>d.length-i.1) ⟨0,Is _⟩ (AC [] rfl rfl ?_ ?_) (λi=>?_)
 ·exact eN
 ·refine eM ?_;rfl
 ·obtain⟨i,hi⟩:=i;have l:=jR m (d.take i) (λx h=>AAT h) [];have t:=AAL i d;have hs:=λh:i<d.length=>E4 RM d d0 [] h;have g:∀e,BL e=e.foldl RM []:=λ_=>rfl;simp only;repeat'(first|exact trivial|refine eS rfl ?_|refine rX c ?_ ?_|refine rC ?_ ?_<;>intro a<;>try(cases a;done))
  ·have j:i<d.length:=by exact eV
   have v:=m _ (AD d d0 j);have hs:=hs j;rw[<-g,<-g]at hs;rw[<-g]at l;generalize BL (d.take i)=o at *;refine AG (ι:={k:Nat//k<=(d.getD i d0).2.2.length}) (λk=>⟨[(0,.p FP d),(3,.p B9 (((d.getD i d0).2.2.take k.1).foldl Pw o)),(4,.p (.int .i64) (i:Int)),(5,.p (.int .i64) (k.1:Int))],[]⟩) (λk=>(d.getD i d0).2.2.length-k.1) ⟨0,Is _⟩ (AC [] rfl rfl ?_ ?_) (λk=>?_)
   ·exact eN
   ·refine eM ?_;rfl
   ·obtain⟨k,hk⟩:=k;have r:k<=(d.getD i d0).2.2.length:=hk;have q:=Xu ((d.getD i d0).2.2.take k) o;have s:=AAL k (d.getD i d0).2.2;have n:=λh:k<(d.getD i d0).2.2.length=>E4 Pw (d.getD i d0).2.2 (ByteArray.empty,ByteArray.empty) o h;simp only;repeat'(first|refine eS rfl ?_|refine AB ?_|refine rX c ?_ ?_|refine rC ?_ ?_<;>intro a<;>try(cases a;done))
    ·assumption
    ·refine⟨by assumption,a,?_⟩;simp only[ABn]at l;dsimp only[Ty.den]at *;omega
    ·have h1:(k:Int)<((d.getD i d0).2.2.length:Int):=a;exact eV
    ·have b:k<(d.getD i d0).2.2.length:=No.1 a;have e:=n b;refine⟨⟨k+1,b⟩,by simp only;omega,AC [] rfl rfl ?_ ?_⟩
     ·exact eN
     ·simp only[e];unfold Pw;exact eN
    ·have:=f;exact eV
    ·have b:(d.getD i d0).2.2.take k=(d.getD i d0).2.2:=An (aT.1 a);have e:BL (d.take (i+1))=((d.getD i d0).2.2.take k).foldl Pw o:=by rw[b];exact hs
     refine⟨⟨i+1,j⟩,by simp only;omega,AC [] rfl rfl ?_ ?_⟩
     ·exact eN
     ·simp only[e];exact eN
  ·have b:d.take i=d:=An (by exact eV);rw[b];exact fI c [.tmp 2]
end
theorem Xv {d:List AI} {l:List ByteArray}:∀ {r:List ByteArray} {k:Nat},S5 d l k r=0->∀s∈r,0<=Ao d s
 | [],_,_,s,hs=>by cases hs
 | x :: r,k,h,s,hs=>by
  simp only[S5]at h;split at h
  ·cases h
  ·rename_i h1;split at h
   ·cases h
   ·rcases By.1 hs with rfl|hs
    ·omega
    ·exact Xv h s hs
theorem Px {d:List AI}:∀ {l:List AI},K9 d l=0->∀x∈l,∀s∈x.2.1,0<=Ao d s
 | [],_,x,a=>by cases a
 | y :: l,h,x,a=>by
  simp only[K9]at h;split at h
  ·rename_i h1;exact absurd h h1
  ·rename_i h1;rcases By.1 a with rfl|a
   ·exact Xv (DO h1)
   ·exact Px h x a
theorem A0S {d:List AI} (h:LA d=0):Pq d:=Px h
theorem Ax {d:List AI} (h:A4 d=0):Pq d/\d.length<=256/\X1 d=1/\Cl d=0/\d.length<=(Bg d).length:=by
 unfold A4 at h;split at h
 ·rename_i h1;exact absurd h h1
 ·rename_i h1;split at h
  ·rename_i a;exact absurd h a
  ·rename_i a;split at h
   ·rename_i b;exact absurd h b
   ·rename_i b;split at h
    ·cases h
    ·rename_i c;split at h
     ·cases h
     ·rename_i e;exact⟨A0S (DO b),SX (DO h1),DO c,DO a,by omega⟩
section
attribute [local go_sem] A75 A0G
def Gf (l:List (List Int)) (i k:Nat):List (List Int) :=
 if (decide (0<((EM (l.getD i []) (l.getD k [])).length:Int))&&!jP l (EM (l.getD i []) (l.getD k [])))=true then l++[EM (l.getD i []) (l.getD k [])] else l
def Gg (i:Nat):Nat->Nat->List (List Int)->List (List Int)
 | 0,_,l=>l
 | n+1,k,l=>if l.length<=256 then Gg i n (k+1) (Gf l i k) else l
def IQ:Nat->Nat->List (List Int)->List (List Int)
 | 0,_,l=>l
 | n+1,i,l=>if i<l.length/\l.length<=256 then IQ n (i+1) (Gg i i 0 l) else l
def Av (c:List (List Int)):List (List Int):=IQ 257 0 c
theorem c8 (a b:List Int):(EM a b).length<=a.length:=by
 unfold EM BJ;have:=Eu .and a b a.length;rw[ON];omega
structure A6l (l:List (List Int)):Prop where
 len:l.length<=257
 wid:∀c∈l,c.length<=64
theorem MU {l:List (List Int)} (h:∀c∈l,c.length<=64) (k:Nat):(l.getD k []).length<=64:=by
 rw[AS];cases hh:l[k]? with
 | none=>simp
 | some x=>exact h x (AB2 hh)
theorem c9 {l:List (List Int)} (h:∀c∈l,c.length<=64) (i k:Nat):∀c∈Gf l i k,c.length<=64:=by
 unfold Gf;split
 ·intro c a;rcases OF.1 a with a|a
  ·exact h c a
  ·have:c=EM (l.getD i []) (l.getD k []):=by simpa using a
   rw[this];exact Qo (c8 _ _) (MU h i)
 ·exact h
theorem A0T (l:List (List Int)) (i k:Nat):l.length<=(Gf l i k).length/\(Gf l i k).length<=l.length+1:=by
 unfold Gf;split
 ·simp
 ·exact⟨NO _,Nat.le_succ _⟩
def Zc:Ae:={ ins:=[S4],pre:=λ(c,_)=>List.length c<=256/\∀x∈(c:List (List Int)),x.length<=64,out:=λ(c,_)=>[.p S4 (Av c)] }
theorem v9:Af Tryz.prog 100 Zc:=by
 refine fK [0,2,3,4,5,6,18,28,48] Tryz.func100 Tryz.ntmps100 (AF jJ (AF A76 AH)) ?_;rintro w0 O0 ⟨c,u⟩ d-⟨n,t⟩;have n:c.length<=256:=n;simp only[Zc,AM];repeat'(first|exact trivial|refine eS rfl ?_|refine rX d ?_ ?_)
 ·simp only[AO];dsimp only[Ty.den]at *;omega
 ·refine AG (ι:={x:Nat×List (List Int)//x.1<=256/\A6l x.2/\IQ (257-x.1) x.1 x.2=Av c}) (λx=>⟨[(3,.sr 7 EL 0 x.1.2.length),(4,.p (.int .i64) (x.1.1:Int))],[(7,.arr 81 EL x.1.2)]⟩) (λx=>257-x.1.1) ⟨(0,c),by simp,⟨by simp only;omega,t⟩,rfl⟩ (eW [(7,.nm 7)]) (λx=>?_)
  ·obtain⟨⟨i,l⟩,hi,⟨q,s⟩,f⟩:=x;simp only at hi q s f;simp only;repeat'(first|exact trivial|refine eS rfl ?_|refine rX d ?_ ?_|refine rC ?_ ?_<;>intro a<;>try(cases a;done))
   ·have w:i<l.length:=by omega
    have z:l.length<=256:=by omega
    have o:IQ (256-i) (i+1) (Gg i i 0 l)=Av c:=by
     have e:257-i=(256-i)+1:=by omega
     rw[<-f,e];show _=if i<l.length/\l.length<=256 then IQ (256-i) (i+1) (Gg i i 0 l) else l
     rw[BY ⟨w,z⟩]
    refine AG (ι:={y:Nat×List (List Int)//y.1<=i/\A6l y.2/\l.length<=y.2.length/\Gg i (i-y.1) y.1 y.2=Gg i i 0 l}) (λy=>⟨[(3,.sr 7 EL 0 y.1.2.length),(4,.p (.int .i64) (i:Int)),(5,.p (.int .i64) (y.1.1:Int))],[(7,.arr 81 EL y.1.2)]⟩) (λy=>i-y.1.1) ⟨(0,l),by simp,⟨q,s⟩,NO _,rfl⟩ (eW [(7,.nm 7)]) (λy=>?_)
    ·obtain⟨⟨k,m⟩,hk,⟨g,b⟩,r,hf⟩:=y;simp only at hk g b r hf;simp only;repeat'(first|exact trivial|refine eS rfl ?_|refine AB ?_|refine rX d ?_ ?_|refine rC ?_ ?_<;>intro a<;>try(cases a;done))
     ·exact⟨by exact eV,by exact eV,Qo (MU b i) (by decide)⟩
     ·simp only[AO];omega
     ·omega
     ·have e:Gf m i k=m++[EM (m.getD i []) (m.getD k [])]:=by
       unfold Gf;rw[BY];rw[As,IS,dO];exact a
      have C:=c9 b i k;have D:=A0T m i k;refine⟨⟨(k+1,Gf m i k),by simp only;omega,⟨by simp only;omega,C⟩,by simp only;omega,?_⟩,by simp only;omega,AC [(7,.nm 7)] rfl rfl ?_ ?_⟩
      ·simp only;rw[<-hf,show i-k=(i-(k+1))+1 by omega];show _=if m.length<=256 then Gg i (i-(k+1)) (k+1) (Gf m i k) else m
       rw[BY (by omega)]
      ·simp only[e];exact eN
      ·simp only[e];exact eN
     ·omega
     ·have e:Gf m i k=m:=by
       unfold Gf;rw[At];rw[As,IS,dO];intro h;rw[a h.1]at h;exact absurd h.2 (by simp)
      refine⟨⟨(k+1,m),by simp only;omega,⟨g,b⟩,r,?_⟩,by simp only;omega,AC [(7,.nm 7)] rfl rfl ?_ ?_⟩
      ·simp only;rw[<-hf,show i-k=(i-(k+1))+1 by omega];show _=if m.length<=256 then Gg i (i-(k+1)) (k+1) (Gf m i k) else m
       rw[BY (by omega),e]
      ·exact eN
      ·exact eN
     ·omega
     ·have B:m=Gg i i 0 l:=by
       rw[<-hf];cases A:i-k with
       | zero=>rfl
       | succ j =>
        show _=if m.length<=256 then _ else m
        rw[At (by omega)]
      rw[<-B]at o;refine⟨⟨(i+1,m),by simp only;omega,⟨g,b⟩,?_⟩,by simp only;omega,AC [(7,.nm 7)] rfl rfl ?_ ?_⟩
      ·simp only;rw[show 257-(i+1)=256-i by omega];exact o
      ·exact eN
      ·exact eN
   ·have v:l=Av c:=by
     rw[<-f];cases A:257-i with
     | zero=>rfl
     | succ m =>
      show _=if i<l.length/\l.length<=256 then _ else l
      rw[At (by omega)]
    rw[<-v];refine Gc [7] ?_;exact fI d [.tmp 2]
theorem cs0 {α:Type} (x y:α):(if ({ data:=#[] }:ByteArray).size<=AO then x else y)=x:=BY (by show 0<=AO;decide)
theorem cs1 {α:Type} (a:UInt8) (x y:α):(if ({ data:=#[a] }:ByteArray).size<=AO then x else y)=x:=BY (by show 1<=AO;decide)
theorem cs2 {α:Type} (a b:UInt8) (x y:α):(if ({ data:=#[a,b] }:ByteArray).size<=AO then x else y)=x:=BY (by show 2<=AO;decide)
theorem cs3 {α:Type} (a b c:UInt8) (x y:α):(if ({ data:=#[a,b,c] }:ByteArray).size<=AO then x else y)=x:=BY (by show 3<=AO;decide)
theorem cs4 {α:Type} (a b c d:UInt8) (x y:α):(if ({ data:=#[a,b,c,d] }:ByteArray).size<=AO then x else y)=x:=BY (by show 4<=AO;decide)
theorem cs5 {α:Type} (a b c d e:UInt8) (x y:α):(if ({ data:=#[a,b,c,d,e] }:ByteArray).size<=AO then x else y)=x:=BY (by show 5<=AO;decide)
theorem cs6 {α:Type} (a b c d e f:UInt8) (x y:α):(if ({ data:=#[a,b,c,d,e,f] }:ByteArray).size<=AO then x else y)=x:=BY (by show 6<=AO;decide)
theorem cs7 {α:Type} (a b c d e f g:UInt8) (x y:α):(if ({ data:=#[a,b,c,d,e,f,g] }:ByteArray).size<=AO then x else y)=x:=BY (by show 7<=AO;decide)
theorem cs8 {α:Type} (a b c d e f g h:UInt8) (x y:α):(if ({ data:=#[a,b,c,d,e,f,g,h] }:ByteArray).size<=AO then x else y)=x:=BY (by show 8<=AO;decide)
end
def BF (b:List Int) (i:Nat):Bool:=(b.getD (i / 64) 0).toNat.testBit (i % 64)
def U64 (x:Int):Prop:=0<=x/\x<18446744073709551616
theorem Fi {x:Int} (h:U64 x):(BitVec.ofInt 64 x).toNat=x.toNat:=by
 rw[BitVec.toNat_ofInt];have h1:=h.1;have a:=h.2;rw[Int.emod_eq_of_lt h1 (by simpa using a)]
theorem Py {n:Nat} (h:n<18446744073709551616):IntKind.u64.wrap (n:Int)=n:=Ks (by rw[JG];omega)
theorem A51 {x y:Int} (a:U64 x) (b:U64 y):CA .or .u64 x y=((x.toNat ||| y.toNat:Nat):Int):=by
 have h1:(BitVec.ofInt IntKind.u64.bits x ||| BitVec.ofInt IntKind.u64.bits y).toNat=x.toNat ||| y.toNat:=by
  rw[BitVec.toNat_or];show (BitVec.ofInt 64 x).toNat ||| (BitVec.ofInt 64 y).toNat=_
  rw[Fi a,Fi b]
 unfold CA;simp only;rw[h1];have e:(18446744073709551616:Nat)=2 ^ 64:=by decide
 refine Py ?_;rw[e];refine Nat.or_lt_two_pow ?_ ?_
 ·have:=a.2;have:=a.1;omega
 ·have:=b.2;have:=b.1;omega
theorem IR {x y:Int} (a:U64 x) (b:U64 y):CA .and .u64 x y=((x.toNat &&& y.toNat:Nat):Int):=by
 have h1:(BitVec.ofInt IntKind.u64.bits x &&& BitVec.ofInt IntKind.u64.bits y).toNat=x.toNat &&& y.toNat:=by
  rw[BitVec.toNat_and];show (BitVec.ofInt 64 x).toNat &&& (BitVec.ofInt 64 y).toNat=_;rw[Fi a,Fi b]
 unfold CA;simp only;rw[h1];refine Py (ACY ACT ?_);have:=a.2;have:=a.1;omega
theorem RN {x y:Int}:CA .andNot .u64 x y=((BitVec.ofInt 64 x &&& ~~~BitVec.ofInt 64 y).toNat:Int):=by
 show IntKind.u64.wrap ((BitVec.ofInt 64 x &&& ~~~BitVec.ofInt 64 y).toNat:Int)=_;exact Py (BitVec.isLt _)
theorem SY {x y:Int} (d:U64 x) (e:U64 y) (h:CA .andNot .u64 x y=0) {r:Nat} (c:r<64) (b:x.toNat.testBit r=true):y.toNat.testBit r=true:=by
 rw[RN]at h;have h1:(BitVec.ofInt 64 x &&& ~~~BitVec.ofInt 64 y).toNat=0:=by omega
 have a:(BitVec.ofInt 64 x &&& ~~~BitVec.ofInt 64 y).toNat.testBit r=false:=by rw[h1];exact Nat.zero_testBit r
 rw[AC9,BitVec.getLsbD_and,BitVec.getLsbD_not,<-AC9,<-AC9,Fi d,Fi e,b]at a;simpa[c] using a
theorem SZ {x:Int}:CA .andNot .u64 x x=0:=by
 rw[RN];simp
theorem OU {b:List Int}:∀ {n:Nat},∀k,Cf b n<=k->k<n->b.getD k 0=0
 | 0,k,_,h=>by omega
 | n+1,k,h1,c=>by
  unfold Cf at h1;split at h1
  ·rename_i a;by_cases hk:k=n
   ·rw[hk];exact a
   ·exact OU k h1 (by omega)
  ·omega
theorem Pz (b:List Int) (k:Nat):(BJ b).getD k 0=b.getD k 0:=by
 unfold BJ;by_cases h:k<Cf b b.length
 ·simp[AS,AAy,h]
 ·have h1:(List.take (Cf b b.length) b).getD k 0=0:=by
   rw[AS,AAy,At h];rfl
  rw[h1];by_cases a:k<b.length
  ·exact(OU k (by omega) a).symm
  ·rw[AS,iF (by omega)];rfl
theorem OV (b:List Int) (i:Nat):BF (BJ b) i=BF b i:=by unfold BF;rw[Pz]
def IT (b:List Int):Prop:=∀x∈b,U64 x
theorem BH {b:List Int} (h:IT b) (k:Nat):U64 (b.getD k 0):=by
 rw[AS];cases hh:b[k]? with
 | none=>exact⟨by simp,by simp⟩
 | some x=>exact h x (AB2 hh)
theorem OW {b:List Int} (h:IT b):IT (BJ b):=λx a=>h x (AAT a)
theorem Hr (b:List Int) (k:Nat):GM b (k:Int)=b.getD k 0:=by
 unfold GM;split
 ·simp
 ·rename_i h;rw[AS,iF (by omega)];rfl
theorem NC (op:BinOp) (a b:List Int) {n k:Nat} (h:k<n):(Gd op a b n).getD k 0=CA op .u64 (a.getD k 0) (b.getD k 0):=by
 unfold Gd;rw[AS,AA1,AB1 h];show CA op .u64 (a.getD k 0) (GM b (k:Int))=_;rw[Hr]
theorem Zd {a b:List Int} (h:FQ a b=true) {k:Nat} (hk:k<a.length):CA .andNot .u64 (a.getD k 0) (b.getD k 0)=0:=by
 unfold FQ RI BJ at h;have h1:(List.take (Cf (Gd .andNot a b a.length) (Gd .andNot a b a.length).length) (Gd .andNot a b a.length)).length=0:=by
  have:=AAN.1 h;omega
 rw[ON,Eu]at h1;have d:=Us (Gd .andNot a b a.length) a.length;have c:=OU (b:=Gd .andNot a b a.length) (n:=a.length) k (by omega) hk;rw[NC _ _ _ hk]at c;exact c
theorem MV {a b:List Int} (ha:IT a) (c:IT b) (h:FQ a b=true) {i:Nat} (hi:BF a i=true):BF b i=true:=by
 by_cases hk:i / 64<a.length
 ·exact SY (BH ha _) (BH c _) (Zd h hk) (ADm _ (by decide)) hi
 ·exfalso;unfold BF at hi;rw[AS,iF (by omega)]at hi;simp at hi
theorem RP {b:List Int}:∀ {n:Nat},(∀k,k<n->b.getD k 0=0)->Cf b n=0
 | 0,_=>rfl
 | n+1,h=>by
  unfold Cf;rw[BY (h n (by omega))];exact RP λk hk=>h k (by omega)
theorem dA (a:List Int):FQ a a=true:=by
 unfold FQ RI BJ;have h1:Cf (Gd .andNot a a a.length) (Gd .andNot a a a.length).length=0:=by
  rw[Eu];exact RP λk hk=>by rw[NC _ _ _ hk];exact SZ
 rw[h1];rfl
theorem dB (a:List Int):DT a a=true:=by unfold DT;rw[dA];rfl
theorem A52 {b:List Int} (j:IT b) (l:b.length=64) {x:Int} (h0:0<=x) (h1:x<=4095) (i:Nat):BF (v6 b x) i=(BF b i||decide (x=(i:Int))):=by
 have d:Int.tdiv x 64=x / 64:=AB5 h0;have e:Int.tmod x 64=x % 64:=ABY h0;obtain⟨n,rfl⟩:∃n:Nat,x=(n:Int):=⟨x.toNat,by omega⟩;have hs:Sx .u64 1 ((n:Int) % 64)=((2 ^ (n % 64):Nat):Int):=by
  unfold Sx;have f:min ((n:Int) % 64).toNat IntKind.u64.bits=n % 64:=by
   have:((n:Int) % 64).toNat=n % 64:=by omega
   rw[this];have:IntKind.u64.bits=64:=rfl;omega
  rw[f,Int.one_mul];have:(2:Int) ^ (n % 64)=((2 ^ (n % 64):Nat):Int):=by simp
  rw[this];refine Py ?_;have a:(2:Nat) ^ (n % 64)<2 ^ 64:=Nat.pow_lt_pow_right (by decide) (ADm _ (by decide));exact a
 have hu:U64 (Sx .u64 1 ((n:Int) % 64)):=by
  rw[hs];have a:(2:Nat) ^ (n % 64)<2 ^ 64:=Nat.pow_lt_pow_right (by decide) (ADm _ (by decide));have g:(2:Nat) ^ 64=18446744073709551616:=by decide
  refine⟨AAp _,?_⟩;rw[g]at a;exact No.2 a
 have hn:((n:Int) / 64).toNat=n / 64:=by omega
 unfold v6 BF;rw[d,e,hn];by_cases c:i / 64=n / 64
 ·have k:n / 64<b.length:=by omega
  rw[c];have:(b.set (n / 64) (CA .or .u64 (b.getD (n / 64) 0) (Sx .u64 1 ((n:Int) % 64)))).getD (n / 64) 0=CA .or .u64 (b.getD (n / 64) 0) (Sx .u64 1 ((n:Int) % 64)):=by
   simp[AS,k]
  rw[this,A51 (BH j _) hu,hs];simp only[gO,Nat.testBit_or,Nat.testBit_two_pow]
  congr 1
  rw[decide_eq_decide];omega
 ·have:(b.set (n / 64) (CA .or .u64 (b.getD (n / 64) 0) (Sx .u64 1 ((n:Int) % 64)))).getD (i / 64) 0=b.getD (i / 64) 0:=by
   simp[AS,AAY,ADn c]
  rw[this];have:decide ((n:Int)=(i:Int))=false:=by
   rw[To];intro h;exact c (by omega)
  rw[this,Bool.or_false]
theorem A53 {b:List Int} (c:IT b) (x:Int):IT (v6 b x):=by
 intro y a;unfold v6 at a;rcases ABM a with h|h
 ·exact c y h
 ·rw[h];have:=Mv .u64 ((BitVec.ofInt IntKind.u64.bits (b.getD (x.tdiv 64).toNat 0) ||| BitVec.ofInt IntKind.u64.bits (Sx .u64 1 (x.tmod 64))).toNat:Int);rw[JG]at this;exact⟨this.1,by have:=this.2;show _<_;exact ACw this (by decide)⟩
theorem A54 {l:List Int} (h:l.all okB=true) (i:Nat):BF (yU l) i=decide ((i:Int)∈l)/\IT (yU l):=by
 have key:∀(l b:List Int),l.all okB=true->IT b->b.length=64->BF (l.foldl v6 b) i=(BF b i||decide ((i:Int)∈l))/\IT (l.foldl v6 b):=by
  intro l;induction l with
  | nil=>intro b _ a _;simp[a]
  | cons x l m =>
   intro b c a d;rw[ABH,As]at c;have e:=c.1;unfold okB at e;rw[dO,AB3,To,To]at e;obtain⟨f,g⟩:=m (v6 b x) c.2 (A53 a x) (by simp[v6,d]);rw[TO];refine⟨?_,g⟩;rw[f,A52 a d (by omega) (by omega),Bool.or_assoc]
   congr 1
   rw[<-Bool.decide_or,decide_eq_decide,By,eq_comm]
 have j:IT (List.replicate 64 (0:Int)):=by
  intro y k;rw[(List.mem_replicate.1 k).2];exact⟨by decide,by decide⟩
 have h1:=key l (List.replicate 64 0) h j (by simp);refine⟨?_,h1.2⟩;unfold yU;rw[h1.1];have:BF (List.replicate 64 (0:Int)) i=false:=by
  unfold BF;have:(List.replicate 64 (0:Int)).getD (i / 64) 0=0:=by
   rw[AS,ABp];split<;>rfl
  rw[this];simp
 rw[this,ADb]
theorem A0V {low all:List ByteArray} {n i:Nat}:((i:Int)∈OT low all n)↔i<n/\AX low (all.getD i ByteArray.empty)=true:=by
 unfold OT;rw[Do];constructor
 ·rintro⟨j,a,e⟩;have:j=i:=by omega
  subst this;rw[AAC,oR]at a;exact a
 ·rintro⟨h1,b⟩;exact⟨i,by rw[AAC,oR];exact⟨h1,b⟩,rfl⟩
theorem A55 {low all:List ByteArray} {n:Nat} (hn:n<=4096):(OT low all n).all okB=true:=by
 rw[IN];intro x a;unfold OT at a;obtain⟨j,b,rfl⟩:=Do.1 a;rw[AAC,oR]at b;unfold okB;rw[dO,AB3,To,To];exact⟨by omega,by omega⟩
theorem Bt {d:List AI} {all:List ByteArray} (c:all.length<=4096) (s:ByteArray) (i:Nat):(BF (Ew d all s) i=true↔i<all.length/\AX (Cn d s) (all.getD i ByteArray.empty)=true)/\IT (Ew d all s)/\(Ew d all s).length<=64:=by
 have h1:=A55 (low:=Cn d s) (all:=all) c;have b:=A54 h1 i;have a:Ew d all s=BJ (yU (OT (Cn d s) all all.length)):=by
  unfold Ew ofF;rw[BY h1]
 refine⟨?_,?_,?_⟩
 ·rw[a,OV,b.1,IS,A0V]
 ·rw[a];exact OW b.2
 ·rw[a];unfold BJ;have:=Pu (OT (Cn d s) all all.length);rw[ON];omega
theorem JP (d:List AI) {s t:ByteArray} (h:Ac s t=true):Ao d s=Ao d t:=by
 have key:∀(l:List AI) (k:Nat),Cs s k l=Cs t k l:=by
  intro l;induction l with
  | nil=>intro k;rfl
  | cons x l a =>
   intro k;simp only[Cs];have:Ac x.1 s=Ac x.1 t:=by grind [Ac,BT,EA]
   rw[this,a]
 exact key d 0
theorem BD {α:Type} {l:List α} {d:α} {k:Nat} (h:k<l.length):l.getD k d∈l:=by grind
theorem Cg {α:Type} {l:List α} (d:α) {x:α} (h:x∈l):∃k,k<l.length/\l.getD k d=x:=by
 obtain⟨k,hk,e⟩:=AAr.1 h;exact⟨k,hk,by rw[AS,AT hk];exact e⟩
theorem JQ {d:List AI}:∀ {r:List AI} {k:Nat},OP d k r=0->∀j,j<r.length->¬Ao d (r.getD j d0).1<((k+j:Nat):Int)/\Et (r.getD j d0).1 false=true
 | [],_,_,j,a=>by simp at a
 | x :: r,k,h,j,a=>by
  simp only[OP]at h;split at h
  ·cases h
  ·rename_i h1;split at h
   ·cases h
   ·rename_i b;cases j with
    | zero=>exact⟨b,by simpa using h1⟩
    | succ j =>
     have:=JQ h j (by simpa using a);have e:k+(j+1)=k+1+j:=by omega
     rw[e];exact this
theorem P0 (s:ByteArray):∀(l:List AI) (k j:Nat),j<l.length->Ac (l.getD j d0).1 s=true->Cs s k l<=((k+j:Nat):Int)
 | [],_,j,h,_=>by simp at h
 | x :: l,k,j,h,e=>by
  simp only[Cs];split
  ·omega
  ·rename_i h1;cases j with
   | zero=>exact absurd e h1
   | succ j =>
    have:=P0 s l (k+1) j (by simpa using h) e;omega
theorem MW {d:List AI} (h:Cl d=0) {j:Nat} (b:j<d.length):Ao d (d.getD j d0).1=(j:Int):=by
 have h1:=(JQ h j b).1;have a:=P0 (d.getD j d0).1 d 0 j b (Ct _);rw[ABf]at h1 a;have a:Ao d (d.getD j d0).1<=(j:Int):=a;omega
theorem P6 {d:List AI} (h:Cl d=0) {x y:AI} (a:x∈d) (b:y∈d) (e:Ac x.1 y.1=true):x=y:=by
 obtain⟨i,hi,rfl⟩:=Cg d0 a;obtain⟨j,c,rfl⟩:=Cg d0 b;grind [MW,JP]
theorem jS (d:List AI) (out:List ByteArray) (h:(IL d out).1=true):∃x∈d,x.1=(IL d out).2/\AX out x.1=false/\Jl x out=true:=by
 have key:∀(l:List AI) (s:Bool×ByteArray),(∀x∈l,x∈d)->(s.1=true->∃x∈d,x.1=s.2/\AX out x.1=false/\Jl x out=true)->(l.foldl (JN out) s).1=true ->
   ∃x∈d,x.1=(l.foldl (JN out) s).2/\AX out x.1=false/\Jl x out=true:=by
  intro l;induction l with
  | nil=>intro s _ hs h;exact hs h
  | cons y l c =>
   intro s a hs h;rw[TO]at h ⊢;refine c _ (λx b=>a x (by simp[b])) (λhp=>?_) h;unfold JN at hp ⊢;split
   ·grind
   ·grind
 exact key d _ (λ_ h=>h) (λh=>by cases h) h
def PL (d:List AI) (o:List ByteArray):Prop:=∀j,j<o.length->∃x∈d,x.1=o.getD j ByteArray.empty/\AX (o.take j) x.1=false/\Jl x (o.take j)=true
theorem PL.snoc {d:List AI} {o:List ByteArray} (h:PL d o) {x:AI} (i:x∈d) (h1:AX o x.1=false) (f:Jl x o=true):PL d (o++[x.1]):=by
 intro j g;by_cases a:j<o.length
 ·obtain⟨y,k,b,c,e⟩:=h j a;grind
 ·grind
theorem U0 {d:List AI}:∀ {n:Nat} {o:List ByteArray},PL d o->PL d (JO d n o)
 | 0,_,h=>h
 | n+1,o,h=>by
  unfold JO;split
  ·rename_i hp;obtain⟨x,b,e,h1,a⟩:=jS d o hp;rw[<-e];exact U0 (h.snoc b h1 a)
  ·exact h
theorem Xw (d:List AI):PL d (Bg d):=U0 λj a=>by simp at a
theorem PL.ok {d:List AI} {o:List ByteArray} (h:PL d o):ZY d o:=by
 refine⟨λs hs=>?_,?_⟩
 ·obtain⟨j,a,rfl⟩:=Cg ByteArray.empty hs;obtain⟨x,b,e,-⟩:=h j a;rw[<-e];exact Db b
 ·rw[tO];intro i j hi a f;obtain⟨x,b,e,h1,-⟩:=h j a;have c:=Pr h1 o[i] (by rw[AC7];exact⟨i,by omega,rfl⟩);grind
theorem jT {n:Nat} {l:List Nat} (h:l.Nodup) (c:∀j∈l,j<n) (hn:n<=l.length) {k:Nat} (hk:k<n):k∈l:=by
 refine DO λb=>?_;have:=EW n (k :: l) (AAS.2 ⟨b,h⟩) (λj a=>by
  rcases By.1 a with rfl|a
  ·exact hk
  ·exact c j a)
 simp at this;omega
theorem jU {d:List AI} (f:d.length<=(Bg d).length) {x:AI} (h:x∈d):∃s∈Bg d,Ac s x.1=true:=by
 have a:=(Xw d).ok;have h1:=LC d a;have h0:=Db h;have l:=DU d x.1;have b:=jT (n:=d.length) h1 (λj c=>by
  obtain⟨s,hs,rfl⟩:=Do.1 c;have h1:=a.decl s hs;rcases DU d s with g|⟨_,g,_⟩<;>omega) (by simpa using f) (k:=(Ao d x.1).toNat) (by omega)
 obtain⟨s,hs,e⟩:=Do.1 b;refine⟨s,hs,?_⟩;rcases DU d s with g|⟨_,_,i⟩
 ·have:=a.decl s hs;omega
 ·grind [BT,EA]
def GP (d:List AI) (s:ByteArray):Nat:=(Bg d).findIdx λx=>Ac x s
theorem IU (d:List AI) {s t:ByteArray} (h:Ac s t=true):GP d s=GP d t:=by grind [GP,Ac,BT,EA]
theorem LD {d:List AI} (hn:Cl d=0) (o:d.length<=(Bg d).length) {x:AI} (g:x∈d) {s:ByteArray} (hs:AX x.2.1 s=true):GP d s<GP d x.1:=by
 obtain⟨t,q,e⟩:=jU o g;have c:GP d x.1<(Bg d).length:=List.findIdx_lt_length_of_exists ⟨t,q,e⟩;have heq:Ac ((Bg d)[GP d x.1]) x.1=true:=List.findIdx_getElem (w:=c);obtain⟨y,r,a,-,j⟩:=Xw d (GP d x.1) c;rw[AS,AT c]at a;have a:y.1=(Bg d)[GP d x.1]:=a;rw[<-a]at heq;have z:=P6 hn r g heq;subst z;obtain⟨u,hu,h⟩:=iS.1 hs;have k:AX ((Bg d).take (GP d y.1)) u=true:=IN.1 j u hu;obtain⟨v,f,ev⟩:=iS.1 k;rw[AC7]at f;obtain⟨i,hi,rfl⟩:=f;have n:i<GP d y.1:=by omega
 refine ACY ?_ n;refine DO λm=>?_;have b:=List.not_of_lt_findIdx (p:=λx=>Ac x s) (xs:=Bg d) (i:=i) (by unfold GP at m;omega);have l:Ac ((Bg d)[i]) s=true:=BT ev h;try simp only at b
 rw[l]at b;exact absurd b (by simp)
def Wx (d:List AI) (s x:ByteArray):Prop:=Ac s x=true\/GP d s<GP d x
theorem wA {d:List AI} (hn:Cl d=0) (f:d.length<=(Bg d).length) {s c:ByteArray} (b:Wx d s c) {o:List ByteArray} (e:∀x∈o,Wx d s x) {x:AI} (g:x∈d):∀y∈FK c o x,Wx d s y:=by
 intro y a;unfold FK at a;split at a
 ·rename_i h;rw[As]at h;rcases OF.1 a with a|a
  ·exact e y a
  ·have:y=x.1:=by simpa using a
   subst this;have h1:=LD hn f g h.1;right;rcases b with b|b
   ·rw[IU d b];exact h1
   ·omega
 ·exact e y a
theorem VA {d:List AI} (hn:Cl d=0) (e:d.length<=(Bg d).length) {s c:ByteArray} (b:Wx d s c):∀ {l:List AI} {o:List ByteArray},(∀x∈l,x∈d)->(∀x∈o,Wx d s x)->∀y∈l.foldl (FK c) o,Wx d s y
 | [],_,_,a=>a
 | x :: l,o,f,a=>by
  rw[TO];exact VA hn e b (λy g=>f y (by simp[g])) (wA hn e b a (f x (by simp)))
theorem Sa {d:List AI} (hn:Cl d=0) (b:d.length<=(Bg d).length) {s:ByteArray}:∀ {n i:Nat} {o:List ByteArray},(∀x∈o,Wx d s x)->∀y∈Cm d n i o,Wx d s y
 | 0,_,_,a=>a
 | n+1,i,o,a=>by
  unfold Cm;split
  ·rename_i hi;exact Sa hn b (VA hn b (a _ (BD hi)) (λ_ h=>h) a)
  ·exact a
theorem A0W {c:ByteArray} {o:List ByteArray} {x:AI} {y:ByteArray} (h:y∈o):y∈FK c o x:=by grind [FK]
theorem ND {c:ByteArray} {y:ByteArray}:∀ {l:List AI} {o:List ByteArray},y∈o->y∈l.foldl (FK c) o
 | [],_,h=>h
 | x :: l,o,h=>by rw[TO];exact ND (A0W h)
theorem LE {d:List AI} {y:ByteArray}:∀ {n i:Nat} {o:List ByteArray},y∈o->y∈Cm d n i o
 | 0,_,_,h=>h
 | n+1,i,o,h=>by
  unfold Cm;split
  ·exact LE (ND h)
  ·exact h
theorem G7 {l:List ByteArray} {s x:ByteArray} (h:x∈Ea l s):x∈l\/x=s:=by grind [Ea]
theorem NE {l:List ByteArray} {s x:ByteArray} (h:x∈l):x∈Ea l s:=by
 unfold Ea;split
 ·exact h
 ·have a:x∈l.take (atF l s)\/x∈l.drop (atF l s):=OF.1 (by rw[AC1];exact h);grind
theorem QA {l:List ByteArray} {s:ByteArray}:AX (Ea l s) s=true:=by
 unfold Ea;grind [JM,atF,Ac,AX,Ct]
theorem Fj {l:List ByteArray} {s:ByteArray} (h:s∈l):AX l s=true:=iS.2 ⟨s,h,Ct s⟩
theorem KI {l m:List ByteArray} {s:ByteArray} (hs:∀x∈l,x∈m) (h:AX l s=true):AX m s=true:=by
 obtain⟨x,a,e⟩:=iS.1 h;exact iS.2 ⟨x,hs x a,e⟩
theorem VB:∀ {l o:List ByteArray} {x:ByteArray},x∈l.foldl Ea o->x∈o\/x∈l
 | [],_,_,h=>.inl h
 | y :: l,o,x,h=>by
  rw[TO]at h;rcases VB h with h|h
  ·grind [G7]
  ·grind
theorem Xx:∀ {l o:List ByteArray} {x:ByteArray},x∈o->x∈l.foldl Ea o
 | [],_,_,h=>h
 | y :: l,o,x,h=>by rw[TO];exact Xx (NE h)
theorem QB:∀ {l o:List ByteArray} {x:ByteArray},x∈l->AX (l.foldl Ea o) x=true
 | [],_,_,h=>by cases h
 | y :: l,o,x,h=>by
  rw[TO];rcases By.1 h with rfl|h
  ·grind [KI,Xx,QA]
  ·exact QB h
theorem OX {d:List AI} {s:ByteArray} (h:0<=Ao d s):AX (Cn d s) s=true:=by
 unfold Cn;rw[At (by omega)];exact QB (LE (by simp))
theorem VC {d:List AI} (hn:Cl d=0) (c:d.length<=(Bg d).length) {s x:ByteArray} (h:AX (Cn d s) x=true):Wx d s x:=by
 obtain⟨y,a,e⟩:=iS.1 h;have b:Wx d s y:=by
  unfold Cn at a;split at a
  ·cases a
  ·rcases VB a with a|a
   ·cases a
   ·refine Sa hn c (λz f=>?_) y a;have:z=s:=by simpa using f
    rw[this];exact .inl (Ct s)
 rcases b with b|b
 ·exact .inl (BT b e)
 ·rw[IU d e]at b;exact .inr b
theorem Cu {d:List AI} {s:ByteArray} (h:s∈AN d):∃x∈d,x.1=s:=by
 have key:∀(l:List AI) (o:List ByteArray),s∈l.foldl (λo x=>Ea o x.1) o->s∈o\/∃x∈l,x.1=s:=by
  intro l;induction l with
  | nil=>intro o h;exact .inl h
  | cons x l a =>
   intro o h;rw[TO]at h;rcases a _ h with h|⟨y,b,e⟩
   ·grind [G7]
   ·grind
 rcases key d [] h with h|h
 ·cases h
 ·exact h
theorem OY {d:List AI} {x:AI} (h:x∈d):AX (AN d) x.1=true:=by
 have b:∀(l:List AI) (o:List ByteArray),∀y∈o,y∈l.foldl (λo x=>Ea o x.1) o:=by
  intro l;induction l with
  | nil=>intro o y h;exact h
  | cons x l a=>intro o y h;rw[TO];exact a _ y (NE h)
 have key:∀(l:List AI) (o:List ByteArray),x∈l->AX (l.foldl (λo x=>Ea o x.1) o) x.1=true:=by
  intro l;induction l with
  | nil=>intro o h;cases h
  | cons y l a =>
   intro o h;rw[TO];rcases By.1 h with rfl|h
   ·grind [KI,QA]
   ·exact a _ h
 exact key d [] h
theorem dC {d:List AI} (hn:Cl d=0) (g:d.length<=(Bg d).length) (r:d.length<=256) {i j:Nat} (hi:i<(AN d).length) (f:j<(AN d).length)
  (h:DT (Ew d (AN d) ((AN d).getD i ByteArray.empty)) (Ew d (AN d) ((AN d).getD j ByteArray.empty))=true):Ac ((AN d).getD i ByteArray.empty) ((AN d).getD j ByteArray.empty)=true:=by
 have o:=D9 d d.length;rw[iN]at o;have a:(AN d).length<=4096:=by omega
 generalize hs:(AN d).getD i ByteArray.empty=s at *;generalize b:(AN d).getD j ByteArray.empty=t at *;have p:0<=Ao d s:=by
  obtain⟨x,c,e⟩:=Cu (s:=s) (by rw[<-hs];exact BD hi);rw[<-e];exact Db c
 have q:0<=Ao d t:=by
  obtain⟨x,c,e⟩:=Cu (s:=t) (by rw[<-b];exact BD f);rw[<-e];exact Db c
 obtain⟨c1,k,-⟩:=Bt (d:=d) a s i;obtain⟨c2,l,-⟩:=Bt (d:=d) a t i;obtain⟨m,-,-⟩:=Bt (d:=d) a s j;obtain⟨n,-,-⟩:=Bt (d:=d) a t j;unfold DT at h;rw[As]at h;have b1:=VC hn g (c2.1 (MV k l h.1 (c1.2 ⟨hi,by rw[hs];exact OX p⟩))).2;have b2:=VC hn g (m.1 (MV l k h.2 (n.2 ⟨f,by rw[b];exact OX q⟩))).2;rw[hs]at b1;rw[b]at b2;rcases b1 with b1|b1
 ·exact EA b1
 ·rcases b2 with b2|b2
  ·exact b2
  ·omega
section
attribute [local go_sem] ZR A0E MS cs0 cs1
def sE (d:List AI) (all:List ByteArray) (codes:List (List Int)) (b:List Int):Nat->Nat->List ByteArray->ByteArray ⊕ List ByteArray
 | 0,_,l=>.inr l
 | n+1,i,l=>if DT (codes.getD i []) b=true then .inl (all.getD i ByteArray.empty) else sE d all codes b n (i+1) (if RH b (i:Int)=true then l++[all.getD i ByteArray.empty] else l)
def Xy (l:List ByteArray) (s:ByteArray) (i:Nat):ByteArray:=(if 0<(i:Int) then s++ByteArray.mk #[38] else s)++l.getD i ByteArray.empty
def dD (l:List ByteArray):ByteArray:=(List.range l.length).foldl (Xy l) ByteArray.empty
def G8 (d:List AI) (all:List ByteArray) (codes:List (List Int)) (b:List Int):ByteArray :=
 match sE d all codes b all.length 0 [] with
 | .inl s=>s
 | .inr l=>dD (Ay d l)
theorem Nq {d:List AI} {x:ByteArray}:∀ {l o:List ByteArray},x∈l.foldl (FL d) o->x∈o\/x∈l
 | [],_,h=>.inl h
 | y :: l,o,h=>by
  rw[TO]at h;rcases Nq h with h|h
  ·unfold FL at h;split at h
   ·rcases G7 h with h|h
    ·exact .inl h
    ·exact .inr (by simp[h])
   ·exact .inl h
  ·exact .inr (by simp[h])
theorem Hg {d:List AI} {l:List ByteArray} {x:ByteArray} (h:x∈Ay d l):x∈l:=by
 unfold Ay Pt at h;obtain⟨i,hi,rfl⟩:=Do.1 h;rw[AAC,oR]at hi;rcases Nq (BD (d:=ByteArray.empty) hi.1) with h|h
 ·cases h
 ·exact h
theorem Ze (d:List AI) (l:List ByteArray):(Ay d l).length<=l.length:=Qo (c5 _ _ _) (Jm d l)
theorem jV {l:List ByteArray} (h:∀s∈l,s.size<=32) (k:Nat):(l.getD k ByteArray.empty).size<=32:=by
 rw[AS];cases hh:l[k]? with
 | none=>simp
 | some x=>exact h x (AB2 hh)
def QC (l:List ByteArray) (n:Nat):ByteArray:=(List.range n).foldl (Xy l) ByteArray.empty
theorem OZ (l:List ByteArray) (n:Nat):QC l (n+1)=Xy l (QC l n) n:=by
 unfold QC;rw[AAq,ABU];rfl
theorem VD {l:List ByteArray} (h:∀s∈l,s.size<=32):∀n,(QC l n).size<=33*n
 | 0=>by simp[QC]
 | n+1=>by
  have h1:=VD h n;have a:=jV h n;rw[OZ];unfold Xy;split
  ·rw[AC5,AC5];have:(ByteArray.mk #[38]).size=1:=rfl;omega
  ·rw[AC5];omega
def Zf:Ae:={ ins:=[FP,B9,S4,EL],pre:=λ(d,all,codes,b,_)=>Pq d/\List.length d<=256/\List.length all<=256/\List.length codes=List.length all/\(∀s∈(all:List ByteArray),s.size<=32)/\(∀x∈(codes:List (List Int)),x.length<=64)/\List.length b<=64,out:=λ(d,all,codes,b,_)=>[.p T9 (G8 d all codes b)] }
theorem wB:Af Tryz.prog 101 Zf:=by
 refine fK [0,1,2,3,8,9,10,11,12,16,24,31,45,49] Tryz.func101 Tryz.ntmps101 (AF vU (AF A0F (AF Uw AH))) ?_;rintro w0 O0 ⟨d,all,codes,b,u⟩ e-⟨hs,z,t,q,C,y,w⟩;have t:all.length<=256:=t;have q:codes.length=all.length:=q;simp only[Zf,AM];repeat'(first|exact trivial|refine eS rfl ?_|refine rX e ?_ ?_)
 refine AG (ι:={x:Nat×List ByteArray//x.1<=all.length/\x.2.length<=x.1/\(∀s∈x.2,s.size<=32)/\sE d all codes b (all.length-x.1) x.1 x.2=sE d all codes b all.length 0 []}) (λx=>⟨[(0,.p FP d),(1,.p B9 all),(2,.p S4 codes),(3,.p EL b),(9,.sr 38 T9 0 x.1.2.length),(10,.p (.int .i64) (x.1.1:Int))],[(38,.arr 9 T9 x.1.2)]⟩) (λx=>all.length-x.1.1) ⟨(0,[]),by simp,by simp,by simp,rfl⟩ (eW [(38,.nil)]) (λx=>?_)
 ·obtain⟨⟨i,l⟩,hi,B,o,f⟩:=x;simp only at hi B o f;have r:i<all.length->sE d all codes b (all.length-i) i l=if DT (codes.getD i []) b=true then .inl (all.getD i ByteArray.empty) else sE d all codes b (all.length-(i+1)) (i+1) (if RH b (i:Int)=true then l++[all.getD i ByteArray.empty] else l):=by
   intro h;rw[show all.length-i=(all.length-(i+1))+1 by omega];rfl
  simp only;repeat'(first|exact trivial|refine eS rfl ?_|refine AB ?_|refine rX e ?_ ?_|refine rC ?_ ?_<;>intro a<;>try(cases a;done))
  ·exact⟨by rw[q];exact a,Qo (MU y i) (by decide),Qo w (by decide)⟩
  ·assumption
  ·have c:i<all.length:=by exact eV
   have j:G8 d all codes b=all.getD i ByteArray.empty:=by
    unfold G8;rw[<-f,r c,BY a]
   exact fI e [.tmp 8] (by rw[j];exact eR)
  ·have c:i<all.length:=by exact eV
   exact⟨No.2 c,by simp only[AO];omega⟩
  ·exact eV
  ·have c:i<all.length:=by exact eV
   have hn:=r c;rw[At (by rw[‹DT _ _=false›];simp),BY a]at hn;refine⟨⟨(i+1,l++[all.getD i ByteArray.empty]),by simp only;omega,by simp only[GO,aS];omega,?_,hn.symm.trans f⟩,by simp only;omega,AC [(38,.nm 38)] rfl rfl ?_ ?_⟩
   ·intro s hs;rcases OF.1 hs with hs|hs
    ·exact o s hs
    ·have:s=all.getD i ByteArray.empty:=by simpa using hs
     rw[this];exact jV C i
   ·exact eN
   ·exact eN
  ·exact eV
  ·have c:i<all.length:=by exact eV
   have hn:=r c;rw[At (by rw[‹DT _ _=false›];simp),At (by rw[a];simp)]at hn;exact⟨⟨(i+1,l),by simp only;omega,by simp only;omega,o,hn.symm.trans f⟩,by simp only;omega,eW [(38,.nm 38)]⟩
  ·have j:G8 d all codes b=dD (Ay d l):=by
    unfold G8;rw[<-f];have:all.length-i=0:=by exact eV
    rw[this];rfl
   refine Gc [38] ?_;repeat'(first|exact trivial|refine eS rfl ?_|refine rX e ?_ ?_)
   ·exact⟨hs,z,by omega⟩
   ·have v:∀s∈Ay d l,s.size<=32:=λs h=>o s (Hg h);have E:=Ze d l;have A:dD (Ay d l)=QC (Ay d l) (Ay d l).length:=rfl;rw[A]at j;generalize Ay d l=m at *;refine AG (ι:={k:Nat//k<=m.length}) (λk=>⟨[(9,.p B9 m),(11,.p T9 (QC m k.1)),(12,.p (.int .i64) (k.1:Int))],[]⟩) (λk=>m.length-k.1) ⟨0,Is _⟩ (AC [] rfl rfl ?_ ?_) (λk=>?_)
    ·exact eN
    ·refine eM ?_;rfl
    ·obtain⟨k,hk⟩:=k;have hk:k<=m.length:=hk;have D:=VD v k;have n:=OZ m k;have F:=jV v k;unfold Xy at n;simp only;repeat'(first|exact trivial|refine eS rfl ?_|refine AB ?_|refine rX e ?_ ?_|refine rC ?_ ?_<;>intro a<;>try(cases a;done))
     ·have h1:(ByteArray.mk #[38]).size=1:=rfl;rw[h1];simp only[AO];exact eV
     ·refine⟨by assumption,?_⟩;have h1:(ByteArray.mk #[38]).size=1:=rfl;rw[AC5,h1];simp only[AO];exact eV
     ·exact eV
     ·have g:k<m.length:=by exact eV
      rw[BY a]at n;refine⟨⟨k+1,g⟩,by simp only;omega,AC [] rfl rfl ?_ ?_⟩
      ·exact eN
      ·simp only[n];exact eN
     ·refine⟨by assumption,?_⟩;simp only[AO];exact eV
     ·exact eV
     ·have g:k<m.length:=by exact eV
      rw[At (ABC.2 a)]at n;refine⟨⟨k+1,g⟩,by simp only;omega,AC [] rfl rfl ?_ ?_⟩
      ·exact eN
      ·simp only[n];exact eN
     ·have g:k=m.length:=by exact eV
      rw[<-g]at j;exact fI e [.tmp 8] (by rw[j];exact eR)
end
section
attribute [local go_sem] TS Pp A0R Zc Zf Zb
def Fk (x:AQ) (out:List AQ):Nat->Nat
 | 0=>0
 | n+1=>if F8 x (out.getD n c0)=true then Fk x out n else n+1
def Zg (out:List AQ) (x:AQ):List AQ:=out.take (Fk x out out.length)++[x]++out.drop (Fk x out out.length)
def AR (d:List AI):List (List Int):=(AN d).map λs=>Ew d (AN d) s
def Gh (d:List AI) (all:List ByteArray) (codes:List (List Int)) (out:List AQ) (b:List Int):List AQ:=Zg out (G8 d all codes b,b)
def RQ (d:List AI):List AQ->List Int->List AQ:=Gh d (AN d) (AR d)
theorem Oa (d:List AI) (all:List ByteArray) (codes:List (List Int)):∀(l:List (List Int)) (o:List AQ),(l.foldl (Gh d all codes) o).length=o.length+l.length
 | [],o=>by simp
 | b :: l,o=>by
  rw[TO,Oa d all codes l];unfold Gh Zg;simp only[GO,ON,AAQ,OS,ABn];omega
theorem VE {d:List AI} {all:List ByteArray} {codes:List (List Int)}:∀ {l:List (List Int)} {o:List AQ},(∀c∈l,c.length<=64)->(∀y∈o,y.2.length<=64)->∀y∈l.foldl (Gh d all codes) o,y.2.length<=64
 | [],_,_,e=>e
 | b :: l,o,f,e=>by
  rw[TO];refine VE (λc g=>f c (by simp[g])) (λy a=>?_);unfold Gh Zg at a;simp only[OF,ABe]at a;rcases a with (a|a)|a
  ·exact e y (AAT a)
  ·rw[a];exact f b (by simp)
  ·exact e y (ABS a)
theorem dE (x:AQ) (out:List AQ):∀n,Fk x out n<=n
 | 0=>NO _
 | n+1=>by
  unfold Fk;split
  ·exact Nat.le_succ_of_le (dE x out n)
  ·exact NO _
def AL (d:List AI):List AQ:=(Av (AR d)).foldl (RQ d) []
def B5 (d:List AI):List AQ×Int :=
 if A4 d≠0 then ([],A4 d) else if 256<(Av (AR d)).length then ([],7) else (AL d,0)
theorem jW {s:ByteArray} {b:Bool} (h:Et s b=true):s.size<=32:=by
 unfold Et at h;rw[As]at h;have h1:=h.1;unfold RF at h1;simp only[dO,AB3,To]at h1;have:=h1.1.1.2;omega
theorem dF {d:List AI} (hn:Cl d=0):∀s∈AN d,s.size<=32:=by
 intro s hs;obtain⟨x,b,rfl⟩:=Cu hs;obtain⟨j,a,rfl⟩:=Cg d0 b;exact jW (JQ hn j a).2
def LF (d:List AI) (n:Nat):List (List Int):=((AN d).take n).map λs=>Ew d (AN d) s
theorem jX {d:List AI} {n:Nat} (h:n<=(AN d).length):(LF d n).length=n:=by simp[LF,h]
theorem dG {d:List AI} {n:Nat} (h:n<(AN d).length):LF d (n+1)=LF d n++[Ew d (AN d) ((AN d).getD n ByteArray.empty)]:=by
 unfold LF;rw[AW _ ByteArray.empty h,AAs];rfl
theorem jY (d:List AI):LF d (AN d).length=AR d:=by simp[LF,AR]
theorem jZ (d:List AI):(AR d).length=(AN d).length:=by simp[AR]
theorem Ob {d:List AI} (h:d.length<=256):∀c∈AR d,c.length<=64:=by
 intro c a;unfold AR at a;obtain⟨s,-,rfl⟩:=Do.1 a;have b:=D9 d d.length;rw[iN]at b;exact(Bt (d:=d) (all:=AN d) (by omega) s 0).2.2
theorem dH {i:Nat}:∀ {n k:Nat} {l:List (List Int)},(∀c∈l,c.length<=64)->∀c∈Gg i n k l,c.length<=64
 | 0,_,_,h=>h
 | n+1,k,l,h=>by
  unfold Gg;split
  ·exact dH (c9 h i k)
  ·exact h
theorem QD:∀ {n i:Nat} {l:List (List Int)},(∀c∈l,c.length<=64)->∀c∈IQ n i l,c.length<=64
 | 0,_,_,h=>h
 | n+1,i,l,h=>by
  unfold IQ;split
  ·exact QD (dH h)
  ·exact h
theorem dI {out:List AQ} {x y:AQ}:y∈Zg out x↔y=x\/y∈out:=by
 unfold Zg;rw[OF,OF,ABe];have h:=OF (a:=y) (s:=out.take (Fk x out out.length)) (t:=out.drop (Fk x out out.length));rw[AC1]at h;rw[h];constructor
 ·rintro ((h|h)|h)
  ·exact .inr (.inl h)
  ·exact .inl h
  ·exact .inr (.inr h)
 ·rintro (h|h|h)
  ·exact .inl (.inr h)
  ·exact .inl (.inl h)
  ·exact .inr h
def RR:Ae:={ ins:=[FP],pre:=λ_=>True,out:=λ(d,_)=>[.p KF (B5 d).1,.p Wq (B5 d).2] }
theorem QE:Af Tryz.prog 64 RR:=by
 refine fK [0,2,3,4,5,6,7,8,9,10,11,12,13,17,24,41,45,73] Tryz.func64 Tryz.ntmps64 (AF v4 (AF Xo (AF A50 (AF v9 (AF wB (AF v7 AH)))))) ?_;rintro w0 O0 ⟨d,u⟩ g - -;simp only[RR,AM];repeat'(first|exact trivial|refine eS rfl ?_|refine rX g ?_ ?_|refine rC ?_ ?_<;>intro a<;>try(cases a;done))
 ·have h1:B5 d=([],A4 d):=by unfold B5;rw[BY a]
  exact fI g [.tmp 2,.tmp 3] (by rw[h1];exact eR)
 ·have i:A4 d=0:=by simpa using a
  obtain⟨-,E,-⟩:=Ax i;exact Qo E (by decide)
 ·have i:A4 d=0:=by simpa using a
  obtain⟨M,s,-,hn,-⟩:=Ax i;have F:=D9 d d.length;rw[iN]at F;have N:=dF hn;refine AG (ι:={n:Nat//n<=(AN d).length}) (λn=>⟨[(0,.p FP d),(5,.p B9 (AN d)),(6,.sr 36 EL 0 (LF d n.1).length),(7,.p (.int .i64) (n.1:Int))],[(36,.arr 81 EL (LF d n.1))]⟩) (λn=>(AN d).length-n.1) ⟨0,Is _⟩ (AC [(36,.nil)] rfl rfl ?_ ?_) (λn=>?_)
  ·refine eM ?_;rfl
  ·refine eM ?_;rfl
  ·obtain⟨n,I⟩:=n;have Q:=jX I;have hs:=λh=>dG (d:=d) (n:=n) h;simp only;repeat'(first|exact trivial|refine eS rfl ?_|refine AB ?_|refine rX g ?_ ?_|refine rC ?_ ?_<;>intro a<;>try(cases a;done))
   ·refine⟨a,⟨s,by dsimp only[Ty.den]at *;omega⟩,?_⟩;simp only[AO];dsimp only[Ty.den]at *;omega
   ·exact eV
   ·have w:n<(AN d).length:=by exact eV
    have e:=hs w;refine⟨⟨n+1,by omega⟩,by simp only;omega,AC [(36,.nm 36)] rfl rfl ?_ ?_⟩
    ·simp only[e];exact eN
    ·simp only[e];exact eN
   ·have w:n=(AN d).length:=by exact eV
    subst w;rw[jY];have H:=jZ d;have x:=Ob s;have t:∀c∈Av (AR d),c.length<=64:=QD x;refine Gc [36] ?_;repeat'(first|exact trivial|refine eS rfl ?_|refine rX g ?_ ?_|refine rC ?_ ?_<;>intro a<;>try(cases a;done))
    ·exact⟨by omega,x⟩
    ·have h1:B5 d=([],7):=by
      unfold B5;rw[At (by rw[i];simp),BY (by omega)]
     exact fI g [.tmp 2,.tmp 3] (by rw[h1];exact eR)
    ·have D:B5 d=((Av (AR d)).foldl (Gh d (AN d) (AR d)) [],0):=by
      unfold B5;rw[At (by rw[i];simp),At (by omega)];rfl
     generalize Av (AR d)=f at *;generalize AR d=codes at *;generalize AN d=all at *;refine AG (ι:={k:Nat//k<=f.length}) (λk=>⟨[(0,.p FP d),(5,.p B9 all),(6,.p S4 codes),(8,.p S4 f),(9,.sr 9 ZP 0 ((f.take k.1).foldl (Gh d all codes) []).length),(10,.p (.int .i64) (k.1:Int))],[(9,.arr 104 ZP ((f.take k.1).foldl (Gh d all codes) []))]⟩) (λk=>f.length-k.1) ⟨0,Is _⟩ (AC [(9,.nil)] rfl rfl ?_ ?_) (λk=>?_)
     ·refine eM ?_;rfl
     ·refine eM ?_;rfl
     ·obtain⟨k,hk⟩:=k;have C:=Oa d all codes (f.take k) [];have O:(f.take k).length=k:=by rw[ON];exact ABk hk
      have J:=VE (d:=d) (all:=all) (codes:=codes) (l:=f.take k) (o:=[]) (λc g=>t c (AAT g)) (by simp);have L:=λh:k<f.length=>E4 (Gh d all codes) f [] [] h;rw[O]at C;simp only[ABn,ABf]at C;generalize B:(f.take k).foldl (Gh d all codes) []=out at *;simp only;repeat'(first|exact trivial|refine eS rfl ?_|refine rX g ?_ ?_|refine rC ?_ ?_<;>intro a<;>try(cases a;done))
      ·exact⟨a,⟨M,s,by omega,H,N,x,MU t k⟩,a⟩
      ·have v:k<f.length:=by exact eV
       have e:=L v;have G:=MU t k;generalize f.getD k []=b at *;unfold Gh at e;generalize G8 d all codes b=nm at *;refine AG (ι:={q:Nat//q<=out.length/\Fk (nm,b) out q=Fk (nm,b) out out.length}) (λq=>⟨[(0,.p FP d),(5,.p B9 all),(6,.p S4 codes),(8,.p S4 f),(9,.sr 9 ZP 0 out.length),(10,.p (.int .i64) (k:Int)),(11,.bp 11 [] 0),(12,.p (.int .i64) (q.1:Int))],[(9,.arr 104 ZP out),(11,.box 104 true [.p T9 nm,.p EL b])]⟩) (λq=>q.1) ⟨out.length,NO _,rfl⟩ (eW [(9,.nm 9),(11,.nm 11)]) (λq=>?_)
       ·obtain⟨q,j,A⟩:=q;have j:q<=out.length:=j;simp only;repeat'(first|exact trivial|refine eS rfl ?_|refine AB ?_|refine rX g ?_ ?_|refine rC ?_ ?_<;>intro a<;>try(cases a;done))
        ·refine⟨λh=>by omega,λh=>by exact eV,λh=>⟨Qo G (by decide),Qo (J _ (AD out c0 (k:=((q:Int)-1).toNat) (by omega))) (by decide)⟩⟩
        ·omega
        ·obtain⟨P,z⟩:=a;obtain⟨q,rfl⟩:∃r,q=r+1:=⟨q-1,by omega⟩;have m:((q+1:Nat):Int)-1=(q:Int):=by omega
         refine⟨⟨q,by omega,?_⟩,ADc q,AC [(9,.nm 9),(11,.nm 11)] rfl rfl ?_ ?_⟩
         ·rw[<-A];rw[m,gO]at z;show _=if F8 (nm,b) (out.getD q c0)=true then Fk (nm,b) out q else q+1
          rw[BY z]
         ·exact eN
         ·refine eM ?_;show (q:Int)+1-1=q;omega
        ·refine⟨aT.2 j,?_⟩;rw[ON];simp only[AO];omega
        ·rw[ON];simp only[AO];omega
        ·refine⟨aT.2 j,?_⟩;rw[ON,AAQ];simp only[AO];omega
        ·omega
        ·have K:Fk (nm,b) out q=q:=by
          cases q with
          | zero=>rfl
          | succ q =>
           have m:((q+1:Nat):Int)-1=(q:Int):=by omega
           have:=a (by omega);rw[m,gO]at this;show (if F8 (nm,b) (out.getD q c0)=true then Fk (nm,b) out q else q+1)=q+1;rw[At (by rw[this];simp)]
         unfold Zg at e;rw[<-A,K]at e;refine⟨⟨k+1,by omega⟩,by simp only;omega,AC [(9,.nm 80)] rfl rfl ?_ ?_⟩
         ·refine eM ?_;exact e.symm
         ·refine eM ?_;have y:=ABr List.length e;rw[GO,GO]at y;exact y.symm
      ·have v:k=f.length:=by exact eV
       rw[v,iN]at B;rw[B]at D;refine Gc [9] ?_;exact fI g [.tmp 2,.tmp 3] (by rw[D];exact eR)
end
theorem Xz {d:List AI}:∀ {l:List (List Int)} {o:List AQ} {y:AQ},y∈l.foldl (RQ d) o↔y∈o\/∃b∈l,y=(G8 d (AN d) (AR d) b,b)
 | [],o,y=>by simp
 | b :: l,o,y=>by
  rw[TO,Xz];unfold RQ Gh;rw[dI];simp only[By];constructor
  ·rintro ((h|h)|⟨c,a,e⟩)
   ·exact .inr ⟨b,.inl rfl,h⟩
   ·exact .inl h
   ·exact .inr ⟨c,.inr a,e⟩
  ·rintro (h|⟨c,rfl|a,e⟩)
   ·exact .inl (.inr h)
   ·exact .inl (.inl e)
   ·exact .inr ⟨c,a,e⟩
theorem Dd {d:List AI} {y:AQ}:y∈AL d↔∃b∈Av (AR d),y=(G8 d (AN d) (AR d) b,b):=by
 unfold AL;rw[Xz];simp
theorem IV (d:List AI):(AL d).length=(Av (AR d)).length:=by
 have h:=Oa d (AN d) (AR d) (Av (AR d)) [];rw[ABn,ABf]at h;exact h
theorem A0X {l:List (List Int)} {i k:Nat} {c:List Int} (h:c∈l):c∈Gf l i k:=by
 unfold Gf;split
 ·exact OF.2 (.inl h)
 ·exact h
theorem dJ {i:Nat} {c:List Int}:∀ {n k:Nat} {l:List (List Int)},c∈l->c∈Gg i n k l
 | 0,_,_,h=>h
 | n+1,k,l,h=>by
  unfold Gg;split
  ·exact dJ (A0X h)
  ·exact h
theorem dK {c:List Int}:∀ {n i:Nat} {l:List (List Int)},c∈l->c∈IQ n i l
 | 0,_,_,h=>h
 | n+1,i,l,h=>by
  unfold IQ;split
  ·exact dK (dJ h)
  ·exact h
theorem JR (d:List AI) {i:Nat} (h:i<(AN d).length):(AR d).getD i []=Ew d (AN d) ((AN d).getD i ByteArray.empty):=by
 unfold AR;simp[AS,h]
theorem sF {d:List AI} (hn:Cl d=0) (f:d.length<=(Bg d).length) (c:d.length<=256) {j:Nat} (b:j<(AN d).length):∀(m i:Nat) (l:List ByteArray),i+m=(AN d).length->i<=j ->
  ∃s,sE d (AN d) (AR d) ((AR d).getD j []) m i l=.inl s/\Ac s ((AN d).getD j ByteArray.empty)=true
 | 0,i,l,h,g=>by omega
 | m+1,i,l,h,g=>by
  unfold sE;split
  ·rename_i a;refine⟨_,rfl,?_⟩;rw[JR d (by omega),JR d b]at a;exact dC hn f c (by omega) b a
  ·rename_i a;have k:i≠j:=by
    intro e;subst e;exact a (dB _)
   exact sF hn f c b m (i+1) _ (by omega) (by omega)
theorem sG (s:ByteArray):∀(l:List AQ) (k:Nat),MT s k l<((k+l.length:Nat):Int)
 | [],k=>by simp only[MT];omega
 | x :: l,k=>by
  simp only[MT];split
  ·simp only[OS];omega
  ·have:=sG s l (k+1);simp only[OS];omega
theorem sH (s:ByteArray):∀(l:List AQ) (k:Nat) (x:AQ),x∈l->Ac x.1 s=true->0<=MT s k l
 | [],_,_,h,_=>by cases h
 | y :: l,k,x,h,e=>by
  simp only[MT];split
  ·omega
  ·rename_i a;rcases By.1 h with rfl|h
   ·exact absurd e a
   ·exact sH s l (k+1) x h e
theorem IW (l:List AQ) (s:ByteArray):BK l s<(l.length:Int):=by
 have:=sG s l 0;rw[ABf]at this;exact this
theorem G9 {d:List AI} (h:A4 d=0) {s:ByteArray} (hs:AX (AN d) s=true):0<=BK (AL d) s:=by
 obtain⟨-,b,-,hn,f⟩:=Ax h;obtain⟨t,g,e⟩:=iS.1 hs;obtain⟨j,c,rfl⟩:=Cg ByteArray.empty g;obtain⟨u,hu,a⟩:=sF hn f b c (AN d).length 0 [] (by omega) (by omega);have i:(AR d).length=(AN d).length:=by simp[AR]
 refine sH s (AL d) 0 (u,(AR d).getD j []) ?_ (BT a e);rw[Dd];refine⟨(AR d).getD j [],dK (BD (by omega)),?_⟩;unfold G8;rw[hu]
theorem Sb {d:List AI} (h:A4 d=0) {x:AI} (a:x∈d):0<=BK (AL d) x.1:=G9 h (OY a)
theorem BU {d:List AI} (h:(B5 d).2=0):A4 d=0/\(Av (AR d)).length<=256/\(B5 d).1=AL d:=by
 unfold B5 at h ⊢;split at h
 ·rename_i h1;exact absurd h h1
 ·rename_i h1;split at h
  ·cases h
  ·rename_i a;exact⟨DO h1,by omega,by rw[At h1,At a]⟩
theorem sI {d:List AI} (h:A4 d=0):0<(AL d).length:=by
 obtain⟨-,-,a,-,-⟩:=Ax h;cases d with
 | nil=>cases a
 | cons x d =>
  have:=Sb h (x:=x) (by simp);have b:=IW (AL (x :: d)) x.1;omega
section
attribute [local go_sem] sC
def A77 (l:List AQ) (i k:Int) (m:Nat):Bool:=(m:Int)==i||(m:Int)==k||!Lg l k (m:Int)||!Lg l (m:Int) i
def wC (l:List AQ) (i k:Int) (n:Nat):Bool:=(List.range n).all (A77 l i k)
def wD (l:List AQ) (i:Int) (k:Nat):Bool:=!((k:Int)==i||!Lg l (k:Int) i)&&wC l i (k:Int) l.length
def Nr (l:List AQ) (i:Int) (n:Nat):List Int:=((List.range n).filter λ(k:Nat)=>wD l i k).map λ(k:Nat)=>(k:Int)
def X0 (l:List AQ) (i:Int):List Int:=Nr l i l.length
theorem j5 (l:List AQ) (i:Int) (n:Nat):Nr l i (n+1)=Nr l i n++if wD l i n=true then [(n:Int)] else []:=by
 unfold Nr;rw[AAq,ABQ,AAs]
 congr 1
 rw[AAE,ACu];split<;>rfl
theorem wE (l:List AQ) (i:Int) (n:Nat):(Nr l i n).length<=n:=by
 unfold Nr;rw[On];exact Qo (AB9 _ _) (by simp)
theorem wF (l:List AQ) (i k:Int) (n:Nat):wC l i k (n+1)=(wC l i k n&&A77 l i k n):=by
 unfold wC;rw[AAq,ACb];simp
def A0Y:Ae:={ ins:=[KF,T3],pre:=λ(l,i,_)=>((0:Int)<=i/\i<(List.length l:Int))/\List.length l<=256/\(∀x∈(l:List AQ),x.2.length<=64),out:=λ(l,i,_)=>[.p Es (X0 l i)] }
theorem A56:Af Tryz.prog 65 A0Y:=by
 refine fK [0,1,4,5,6,7,8,12,24,28,56] Tryz.func65 Tryz.ntmps65 (AF sD AH) ?_;rintro w0 O0 ⟨l,i,u⟩ c-⟨hi,g,o⟩;have g:l.length<=256:=g;have f:∀x∈(l:List AQ),x.2.length<=100000:=λx h=>Qo (o x h) (by decide);simp only[A0Y,AM];repeat'(first|exact trivial|refine eS rfl ?_|refine rX c ?_ ?_)
 refine AG (ι:={k:Nat//k<=l.length}) (λk=>⟨[(0,.p KF l),(1,.p T3 i),(5,.sr 60 T3 0 (Nr l i k.1).length),(6,.p (.int .i64) (k.1:Int))],[(60,.arr 3 T3 (Nr l i k.1))]⟩) (λk=>l.length-k.1) ⟨0,Is _⟩ (AC [(60,.nil)] rfl rfl ?_ ?_) (λk=>?_)
 ·refine eM ?_;rfl
 ·refine eM ?_;rfl
 ·obtain⟨k,hk⟩:=k;have hk:k<=l.length:=hk;have q:=wE l i k;have hs:=j5 l i k;simp only;repeat'(first|exact trivial|refine eS rfl ?_|refine AB ?_|refine rX c ?_ ?_|refine rC ?_ ?_<;>intro a<;>try(cases a;done))
  ·intro h;exact⟨by assumption,hi,f⟩
  ·exact eV
  ·have e:k<l.length:=by exact eV
   have b:wD l i k=false:=by
    unfold wD;rw[ABh];left;rw[ABu,AAz,AAN,dO];exact a
   rw[b,At (by simp),AAu]at hs;refine⟨⟨k+1,by omega⟩,by simp only;omega,AC [(60,.nm 60)] rfl rfl ?_ ?_⟩
   ·simp only[hs];exact eN
   ·simp only[hs];exact eN
  ·have e:k<l.length:=by exact eV
   have b:wD l i k=wC l i (k:Int) l.length:=by
    unfold wD;rw[show ((k:Int)==i||!Lg l (k:Int) i)=false by
     rw[AB3,ABy,ABu];exact a]
    rfl
   refine AG (ι:={m:Nat//m<=l.length}) (λm=>⟨[(0,.p KF l),(1,.p T3 i),(5,.sr 60 T3 0 (Nr l i k).length),(6,.p (.int .i64) (k:Int)),(7,.p .bool (wC l i (k:Int) m.1)),(8,.p (.int .i64) (m.1:Int))],[(60,.arr 3 T3 (Nr l i k))]⟩) (λm=>l.length-m.1) ⟨0,Is _⟩ (AC [(60,.nm 60)] rfl rfl ?_ ?_) (λm=>?_)
   ·exact eN
   ·refine eM ?_;rfl
   ·obtain⟨m,j⟩:=m;have j:m<=l.length:=j;have n:=wF l i (k:Int) m;simp only;repeat'(first|exact trivial|refine eS rfl ?_|refine AB ?_|refine rX c ?_ ?_|refine rC ?_ ?_<;>intro a<;>try(cases a;done))
    ·exact⟨λh=>⟨by assumption,a,f⟩,λh=>⟨a,hi,f⟩⟩
    ·exact eV
    ·have d:m<l.length:=by exact eV
     refine⟨⟨m+1,by omega⟩,by simp only;omega,AC [(60,.nm 60)] rfl rfl ?_ ?_⟩
     ·exact eN
     ·simp only[n];unfold A77;exact eN
    ·simp only[AO];dsimp only[Ty.den]at *;omega
    ·exact eV
    ·have d:m=l.length:=by exact eV
     subst d;rw[b,BY a]at hs;refine⟨⟨k+1,by omega⟩,by simp only;omega,AC [(60,.nm 60)] rfl rfl ?_ ?_⟩
     ·simp only[hs];exact eN
     ·simp only[hs];exact eN
    ·exact eV
    ·have d:m=l.length:=by exact eV
     subst d;rw[b,At (by rw[a];simp),AAu]at hs;refine⟨⟨k+1,by omega⟩,by simp only;omega,AC [(60,.nm 60)] rfl rfl ?_ ?_⟩
     ·simp only[hs];exact eN
     ·simp only[hs];exact eN
  ·have e:k=l.length:=by exact eV
   subst e;refine Gc [60] ?_;exact fI c [.tmp 4] (by unfold X0;exact eR)
end
section
attribute [local go_sem] Pp Ur Jk
abbrev FV:=ByteArray×ByteArray
abbrev f0V:FV:=(ByteArray.empty,ByteArray.empty)
def yV (all:List ByteArray) (l:List FV):Nat->List FV->Int
 | _,[]=>0
 | k,x :: r=>if Et x.1 true=false then 1 else if ((l.take k).any λy=>Ac y.1 x.1)=true then 4 else if AX all x.2=false then 5 else yV all l (k+1) r
def Zh (all:List ByteArray):List AI->Int
 | []=>0
 | x :: l=>if yV all x.2.2 0 x.2.2≠0 then yV all x.2.2 0 x.2.2 else Zh all l
def LG (d:List AI):Int:=Zh (AN d) d
theorem A0Z (all:List ByteArray) (l:List FV) {k:Nat} (h:k<l.length):yV all l k (l.drop k)=if Et (l.getD k f0V).1 true=false then 1 else if ((l.take k).any λy=>Ac y.1 (l.getD k f0V).1)=true then 4 else if AX all (l.getD k f0V).2=false then 5 else yV all l (k+1) (l.drop (k+1)):=by
 rw[Of h];have e:l.getD k f0V=l[k]:=by simp[AS,h]
 rw[e];rfl
theorem wG (all:List ByteArray) (l:List AI) {k:Nat} (h:k<l.length):Zh all (l.drop k)=if yV all (l.getD k d0).2.2 0 (l.getD k d0).2.2≠0 then yV all (l.getD k d0).2.2 0 (l.getD k d0).2.2 else Zh all (l.drop (k+1)):=by
 rw[Of h];have e:l.getD k d0=l[k]:=by simp[AS,h]
 rw[e];rfl
def j6:Ae:={ ins:=[FP],pre:=λ(d,_)=>List.length d<=256,out:=λ(d,_)=>[.p Wq (LG d)] }
theorem A10:Af Tryz.prog 121 j6:=by
 refine fK [0,2,3,4,5,6,7,13,24,33,36,49,57] Tryz.func121 Tryz.ntmps121 (AF Xo (AF jI (AF G2 AH))) ?_;rintro w0 O0 ⟨d,u⟩ c ⟨⟨x,v⟩,-⟩ j;have j:d.length<=256:=j;simp only[j6,AM];repeat'(first|exact trivial|refine eS rfl ?_|refine rX c ?_ ?_)
 ·exact Qo j (by decide)
 ·have w:LG d=Zh (AN d) d:=rfl;rw[w];generalize AN d=all at *;refine AG (ι:={i:Nat//i<=d.length/\Zh all (d.drop i)=Zh all d}) (λi=>⟨[(0,.p FP d),(3,.p B9 all),(4,.p (.int .i64) (i.1:Int))],[]⟩) (λi=>d.length-i.1) ⟨0,Is _,rfl⟩ (eW []) (λi=>?_)
  ·obtain⟨i,hi,hf⟩:=i;simp only;repeat'(first|exact trivial|refine eS rfl ?_|refine rX c ?_ ?_|refine rC ?_ ?_<;>intro a<;>try(cases a;done))
   ·exact a
   ·have o:i<d.length:=by exact eV
    rw[wG all d o]at hf;have A:(d.getD i d0).2.2.length<=AO:=(v _ (AD d d0 o)).2.2.1;have z:(List.getD d i (ByteArray.empty,[],[])).2.2=(d.getD i d0).2.2:=rfl;rw[z];generalize (d.getD i d0).2.2=l at *;simp only[AO]at A;refine AG (ι:={k:Nat//k<=l.length/\yV all l k (l.drop k)=yV all l 0 l}) (λk=>⟨[(0,.p FP d),(3,.p B9 all),(4,.p (.int .i64) (i:Int)),(5,.p cK l),(6,.p (.int .i64) (k.1:Int))],[]⟩) (λk=>l.length-k.1) ⟨0,Is _,rfl⟩ (eW []) (λk=>?_)
    ·obtain⟨k,hk,b⟩:=k;have r:=λh:k<l.length=>A0Z all l h;simp only;repeat'(first|exact trivial|refine eS rfl ?_|refine AB ?_|refine rX c ?_ ?_|refine rC ?_ ?_<;>intro a<;>try(cases a;done))
     ·exact a
     ·have e:k<l.length:=by exact eV
      rw[r e,BY a]at b;rw[<-b,BY (by decide)]at hf;exact fI c [.tmp 2] (by rw[<-hf];exact eR)
     ·have e:k<l.length:=by exact eV
      have q:(k:Int)<(l.length:Int):=No.2 e;rw[r e,At (by rw[a];simp)]at b;refine AG (ι:={m:Nat//m<=k/\((l.take m).any λy=>Ac y.1 (l.getD k f0V).1)=false}) (λm=>⟨[(0,.p FP d),(3,.p B9 all),(4,.p (.int .i64) (i:Int)),(5,.p cK l),(6,.p (.int .i64) (k:Int)),(7,.p (.int .i64) (m.1:Int))],[]⟩) (λm=>k-m.1) ⟨0,Is _,rfl⟩ (eW []) (λm=>?_)
      ·obtain⟨m,B,g⟩:=m;have s:=λh:m<l.length=>NA l f0V (λy=>Ac y.1 (l.getD k f0V).1) h;simp only;repeat'(first|exact trivial|refine eS rfl ?_|refine AB ?_|refine rX c ?_ ?_|refine rC ?_ ?_<;>intro a<;>try(cases a;done))
       ·have h1:(m:Int)<(k:Int):=a;exact⟨by exact eV,q⟩
       ·have f:m<k:=No.1 (by assumption);have n:=s (by omega);have t:((l.take k).any λy=>Ac y.1 (l.getD k f0V).1)=true:=by
         rw[iS];exact⟨l.getD m f0V,by
          rw[AC7];refine⟨m,by omega,?_⟩;simp[AS,show m<l.length by omega],a⟩
        rw[BY t]at b;rw[<-b,BY (by decide)]at hf;exact fI c [.tmp 2] (by rw[<-hf];exact eR)
       ·omega
       ·have f:m<k:=No.1 (by assumption);have n:=s (by omega);refine⟨⟨m+1,by omega,?_⟩,by simp only;omega,AC [] rfl rfl ?_ ?_⟩
        ·rw[n,g];exact a
        ·exact eN
        ·exact eN
       ·exact q
       ·have f:m=k:=by omega
        subst f;rw[At (by rw[g];simp),BY a]at b;rw[<-b,BY (by decide)]at hf;exact fI c [.tmp 2] (by rw[<-hf];exact eR)
       ·have:=x;simp only[AO]at this;omega
       ·have f:m=k:=by omega
        subst f;rw[At (by rw[g];simp),At (by rw[a];simp)]at b;exact⟨⟨m+1,by omega,b⟩,by simp only;omega,eW []⟩
     ·omega
     ·have e:l.drop k=[]:=IF (aT.1 a);rw[e]at b;rw[<-b,At (by simp[yV])]at hf;exact⟨⟨i+1,by omega,hf⟩,by simp only;omega,eW []⟩
   ·have e:d.drop i=[]:=IF (by exact eV);rw[e]at hf;exact fI c [.tmp 2] (by rw[<-hf];first|exact eR|refine cG ?_;rfl)
end
section
attribute [local go_sem] Za ZQ MS cs0
def Ha (s:ByteArray) (o:List ByteArray) (x:AI):List ByteArray:=if (DH x s).2=true then Ea o x.1 else o
def FU (d:List AI) (s:ByteArray):List ByteArray:=d.foldl (Ha s) []
theorem j7 (s:ByteArray) (d:List AI) (k:Nat):(FU (d.take k) s).length<=k:=by
 have key:∀(l:List AI) (o:List ByteArray),(l.foldl (Ha s) o).length<=o.length+l.length:=by
  intro l;induction l with
  | nil=>intro o;simp
  | cons x l b =>
   intro o;have h1:=b (Ha s o x);have a:(Ha s o x).length<=o.length+1:=by
    unfold Ha;split
    ·exact MQ o x.1
    ·omega
   simp only[TO,OS];omega
 have h1:=key (d.take k) [];have a:=AAL k d;unfold FU;simp only[ABn]at h1;omega
def De (d:List AI) (s:ByteArray):ByteArray×Bool:=if (Ay d (FU d s)).length=1 then ((Ay d (FU d s)).getD 0 ByteArray.empty,true) else (ByteArray.empty,false)
def Zi:Ae:={ ins:=[FP,T9],pre:=λ(d,_,_)=>Pq d/\List.length d<=256,out:=λ(d,s,_)=>[.p T9 (De d s).1,.p .bool (De d s).2] }
theorem dL:Af Tryz.prog 104 Zi:=by
 refine fK [0,1,4,5,6,7,9,10,14,26,39] Tryz.func104 Tryz.ntmps104 (AF c7 (AF RG (AF Uw AH))) ?_;rintro w0 O0 ⟨d,s,u⟩ c-⟨l,f⟩;have f:d.length<=256:=f;simp only[Zi,AM];repeat'(first|exact trivial|refine eS rfl ?_|refine rX c ?_ ?_)
 refine AG (ι:={i:Nat//i<=d.length}) (λi=>⟨[(0,.p FP d),(1,.p T9 s),(6,.p B9 (FU (d.take i.1) s)),(7,.p (.int .i64) (i.1:Int))],[]⟩) (λi=>d.length-i.1) ⟨0,Is _⟩ (AC [] rfl rfl ?_ ?_) (λi=>?_)
 ·exact eN
 ·refine eM ?_;rfl
 ·obtain⟨i,hi⟩:=i;have hi:i<=d.length:=hi;have hn:=j7 s d i;have hs:=λh:i<d.length=>E4 (Ha s) d d0 [] h;have j:∀e,FU e s=e.foldl (Ha s) []:=λ_=>rfl;rw[<-j,<-j]at hs;unfold Ha at hs;simp only;repeat'(first|exact trivial|refine eS rfl ?_|refine AB ?_|refine rX c ?_ ?_|refine rC ?_ ?_<;>intro a<;>try(cases a;done))
  ·exact a
  ·exact⟨by assumption,by omega⟩
  ·exact eV
  ·have b:i<d.length:=by exact eV
   have e:=hs b;rw[BY a]at e;refine⟨⟨i+1,by omega⟩,by simp only;omega,AC [] rfl rfl ?_ ?_⟩
   ·exact eN
   ·simp only[e];exact eN
  ·exact eV
  ·have b:i<d.length:=by exact eV
   have e:=hs b;rw[At (by rw[a];simp)]at e;refine⟨⟨i+1,by omega⟩,by simp only;omega,AC [] rfl rfl ?_ ?_⟩
   ·exact eN
   ·simp only[e];exact eN
  ·exact⟨l,f,by omega⟩
  ·have b:d.take i=d:=An (by exact eV);rw[b]at a ⊢;have h1:De d s=(ByteArray.empty,false):=by
    unfold De;rw[At (by omega)]
   exact fI c [.tmp 4,.tmp 5] (by rw[h1];first|exact eR|refine cG ?_;first|rfl|exact⟨rfl,rfl⟩)
  ·have g:((Ay d (FU (d.take i) s)).length:Int)=1:=by simpa using a
   have k:(0:Int)<((Ay d (FU (d.take i) s)).length:Int):=by rw[g];decide
   exact k
  ·have b:d.take i=d:=An (by exact eV);rw[b]at a ⊢;have g:((Ay d (FU d s)).length:Int)=1:=by simpa using a
   have h1:De d s=((Ay d (FU d s)).getD 0 ByteArray.empty,true):=by
    unfold De;rw[BY (by omega)]
   exact fI c [.tmp 4,.tmp 5] (by rw[h1];exact eR)
end
section
attribute [local go_sem] Za TT sC A0G
def KJ (l:List AQ) (t:Int) (s:ByteArray) (o:List Int×Bool) (x:AI):List Int×Bool :=
 if (!(DH x s).2||!Lg l (BK l x.1) t)=true then o else (EM o.1 (l.getD (BK l (DH x s).1).toNat c0).2,true)
def FA (d:List AI) (l:List AQ) (t:Int) (s:ByteArray):List Int×Bool:=d.foldl (KJ l t s) ((l.getD 0 c0).2,false)
def j8 (d:List AI) (l:List AQ):Prop:=(∀x∈d,0<=BK l x.1)/\∀x∈d,∀y∈x.2.2,0<=BK l y.2
theorem dM (s:ByteArray):∀(l:List (ByteArray×ByteArray)),(c6 s l).2=true->∃y∈l,y.2=(c6 s l).1
 | [],h=>by cases h
 | x :: l,h=>by
  simp only[c6]at h ⊢;split at h
  ·rename_i h1;rw[BY h1];exact⟨x,by simp,rfl⟩
  ·rename_i h1;rw[At h1];obtain⟨y,a,e⟩:=dM s l h;exact⟨y,by simp[a],e⟩
theorem j8.value {d:List AI} {l:List AQ} (h:j8 d l) {x:AI} (b:x∈d) {s:ByteArray} (a:(DH x s).2=true):0<=BK l (DH x s).1:=by
 obtain⟨y,c,e⟩:=dM s x.2.2 a;have:=h.2 x b y c;rw[e]at this;exact this
theorem A11 {l:List AQ} (t:Int) (s:ByteArray) (x:AI) {o:List Int×Bool} (h:o.1.length<=64):(KJ l t s o x).1.length<=64:=by
 unfold KJ;split
 ·exact h
 ·exact Qo (c8 _ _) h
theorem VG {l:List AQ} (t:Int) (s:ByteArray):∀(d:List AI) {o:List Int×Bool},o.1.length<=64->(d.foldl (KJ l t s) o).1.length<=64
 | [],_,h=>h
 | x :: d,_,h=>by rw[TO];exact VG t s d (A11 t s x h)
theorem dN (s:ByteArray):∀(l:List AQ) (k:Nat),MT s k l<((k+l.length:Nat):Int)
 | [],k=>by simp only[MT];omega
 | x :: l,k=>by
  simp only[MT];split
  ·simp only[OS];omega
  ·have:=dN s l (k+1);simp only[OS];omega
theorem Sc (l:List AQ) (s:ByteArray):BK l s<(l.length:Int):=by
 have:=dN s l 0;rw[ABf]at this;exact this
def A58:Ae:={ ins:=[FP,KF,T3,T9],pre:=λ(d,l,t,_,_)=>j8 d l/\((0:Int)<=t/\t<(List.length l:Int))/\List.length l<=256/\(∀x∈(l:List AQ),x.2.length<=64),out:=λ(d,l,t,s,_)=>[.p EL (FA d l t s).1,.p .bool (FA d l t s).2] }
theorem A12:Af Tryz.prog 95 A58:=by
 refine fK [0,1,2,3,8,9,10,11,12,13,14,22,48] Tryz.func95 Tryz.ntmps95 (AF c7 (AF Xs (AF sD (AF jJ AH)))) ?_;rintro w0 O0 ⟨d,l,t,s,u⟩ f ⟨⟨A,G⟩,-⟩ ⟨r,j,n,w⟩;have n:l.length<=256:=n;have F:∀x∈(l:List AQ),x.2.length<=100000:=λx h=>Qo (w x h) (by decide);have q:0<List.length l:=No.1 (ACw j.1 j.2);simp only[AO]at A;simp only[A58,AM];repeat'(first|exact trivial|refine eS rfl ?_|refine rX f ?_ ?_)
 ·exact No.2 q
 ·have m:FA d l t s=d.foldl (KJ l t s) ((l.getD 0 c0).2,false):=rfl;have y:(l.getD 0 c0).2.length<=64:=w _ (AD l c0 q);have z:(List.getD l 0 (ByteArray.empty,[])).2=(l.getD 0 c0).2:=rfl;rw[z];generalize (l.getD 0 c0).2=c at *;refine AG (ι:={i:Nat//i<=d.length}) (λi=>⟨[(0,.p FP d),(1,.p KF l),(2,.p T3 t),(3,.p T9 s),(10,.p .bool ((d.take i.1).foldl (KJ l t s) (c,false)).2),(11,.p EL ((d.take i.1).foldl (KJ l t s) (c,false)).1),(12,.p (.int .i64) (i.1:Int))],[]⟩) (λi=>d.length-i.1) ⟨0,Is _⟩ (AC [] rfl rfl ?_ ?_) (λi=>?_)
  ·exact eN
  ·refine eM ?_;exact⟨rfl,rfl⟩
  ·obtain⟨i,hi⟩:=i;have hi:i<=d.length:=hi;have B:=VG (l:=l) t s (d.take i) (o:=(c,false)) y;have hs:=λh:i<d.length=>E4 (KJ l t s) d d0 (c,false) h;have E:=λh:i<d.length=>r.1 _ (AD d d0 h);have D:=λ(h:i<d.length) (g:(DH (d.getD i d0) s).2=true)=>r.value (AD d d0 h) g;have k:∀o x,KJ l t s o x=(if (!(DH x s).2||!Lg l (BK l x.1) t)=true then o else (EM o.1 (l.getD (BK l (DH x s).1).toNat c0).2,true)):=λ_ _=>rfl;generalize v:(d.take i).foldl (KJ l t s) (c,false)=o at *;simp only;repeat'(first|exact trivial|refine eS rfl ?_|refine AB ?_|refine rX f ?_ ?_|refine rC ?_ ?_<;>intro a<;>try(cases a;done))
   ·exact a
   ·have b:i<d.length:=No.1 a;exact⟨λ_=>a,λ_=>⟨⟨E b,Sc _ _⟩,j,F⟩⟩
   ·exact eV
   ·have b:i<d.length:=No.1 (by assumption);have e:=hs b;rw[k,BY (by rw[AAz,dO,dO];exact a)]at e;refine⟨⟨i+1,by omega⟩,by simp only;omega,AC [] rfl rfl ?_ ?_⟩
    ·exact eN
    ·refine eM ?_;rw[e];exact⟨rfl,rfl⟩
   ·have b:i<d.length:=No.1 (by assumption);exact⟨⟨D b a.1,Sc _ _⟩,Qo B (by decide)⟩
   ·exact eV
   ·have b:i<d.length:=No.1 (by assumption);have e:=hs b;have C:¬(!(DH (d.getD i d0) s).2||!Lg l (BK l (d.getD i d0).1) t)=true:=by
     rw[AAz,dO,dO];rintro (h|h)
     ·rw[show (DH (d.getD i d0) s).2=true from a.1]at h;cases h
     ·rw[show Lg l (BK l (d.getD i d0).1) t=true from a.2]at h;cases h
    rw[k,At C]at e;refine⟨⟨i+1,by omega⟩,by simp only;omega,AC [] rfl rfl ?_ ?_⟩
    ·exact eN
    ·refine eM ?_;rw[e];exact⟨rfl,rfl⟩
   ·have b:d.take i=d:=An (aT.1 a);rw[b]at v;rw[v]at m;exact fI f [.tmp 8,.tmp 9] (by rw[m];exact eR)
end
theorem Sd:∀ {l:List AI},MO l=0->∀x∈l,x.2.1.length<=256/\x.2.2.length<=256
 | [],_,x,a=>by cases a
 | y :: l,h,x,a=>by
  simp only[MO]at h;split at h
  ·cases h
  ·rename_i h1;rcases By.1 a with rfl|a
   ·exact⟨by omega,by omega⟩
   ·exact Sd h x a
theorem LI {d:List AI} (h:A4 d=0):∀x∈d,x.2.1.length<=256/\x.2.2.length<=256:=by
 have h1:E9 d=0:=by
  unfold A4 at h;split at h
  ·rename_i h1;exact absurd h h1
  ·rename_i h1;exact DO h1
 unfold E9 at h1;split at h1
 ·cases h1
 ·exact Sd h1
theorem Oc {d:List AI} (h:A4 d=0):∀x∈AL d,x.2.length<=64:=by
 intro x e;obtain⟨-,a,-⟩:=Ax h;obtain⟨b,c,rfl⟩:=Dd.1 e;exact QD (Ob a) b c
theorem dP {all:List ByteArray} {l:List FV}:∀ {r:List FV} {k:Nat},yV all l k r=0->∀y∈r,AX all y.2=true
 | [],_,_,y,a=>by cases a
 | x :: r,k,h,y,a=>by
  simp only[yV]at h;split at h
  ·cases h
  ·split at h
   ·cases h
   ·split at h
    ·cases h
    ·rename_i b;rcases By.1 a with rfl|a
     ·simpa using b
     ·exact dP h y a
theorem X2 {all:List ByteArray}:∀ {l:List AI},Zh all l=0->∀x∈l,∀y∈x.2.2,AX all y.2=true
 | [],_,x,a=>by cases a
 | z :: l,h,x,a=>by
  simp only[Zh]at h;split at h
  ·rename_i h1;exact absurd h h1
  ·rename_i h1;rcases By.1 a with rfl|a
   ·exact dP (DO h1)
   ·exact X2 h x a
theorem QF {d:List AI} (h:A4 d=0) (b:LG d=0):j8 d (AL d) :=
 ⟨λx a=>Sb h a,λx a y c=>G9 h (X2 b x a y c)⟩
section
attribute [local go_sem] RR Uy j6 Zi A58
def LJ (d:List AI) (l:List AQ) (t:Nat) (s:ByteArray):Bool:=(FA d l (t:Int) s).2&&((FA d l (t:Int) s).1.length:Int)==0
def Zj (d:List AI) (l:List AQ) (f:List ByteArray) (t:Nat):Bool:=f.any (LJ d l t)
def IX (d:List AI) (l:List AQ) (f:List ByteArray) (n:Nat):Bool:=(List.range n).any (Zj d l f)
theorem dQ (d:List AI) (l:List AQ) (f:List ByteArray) (n:Nat):IX d l f (n+1)=(IX d l f n||Zj d l f n):=by
 unfold IX;rw[AAq,ACv];simp
def Aw (d:List AI):Int :=
 if (B5 d).2≠0 then (B5 d).2 else if 64<(BL d).length then 7 else if LG d≠0 then LG d else
 if ((BL d).all λs=>(De d s).2)=false then 10 else if IX d (B5 d).1 (BL d) (B5 d).1.length=true then 11 else 0
def TU:Ae:={ ins:=[FP],pre:=λ_=>True,out:=λ(d,_)=>[.p Wq (Aw d)] }
theorem X3:Af Tryz.prog 93 TU:=by
 refine fK [0,2,3,4,5,6,7,9,10,11,12,13,20,26,30,35,48,52,58,77] Tryz.func93 Tryz.ntmps93 (AF QE (AF Uz (AF A10 (AF dL (AF A12 AH))))) ?_;rintro w0 O0 ⟨d,u⟩ b - -;simp only[TU,AM];repeat'(first|exact trivial|refine eS rfl ?_|refine rX b ?_ ?_|refine rC ?_ ?_<;>intro a<;>try(cases a;done))
 ·have h1:Aw d=(B5 d).2:=by unfold Aw;rw[BY a]
  exact fI b [.tmp 2] (by rw[h1];exact eR)
 ·have c:(B5 d).2=0:=by simpa using a
  obtain⟨e,-,-⟩:=BU c;obtain⟨-,r,-⟩:=Ax e;exact⟨r,λx L=>(LI e x L).2⟩
 ·have c:(B5 d).2=0:=by simpa using ‹((B5 d).2 != 0)=false›
  have h1:Aw d=7:=by
   unfold Aw;rw[At (by rw[c];simp),BY (by omega)]
  exact fI b [.tmp 2] (by rw[h1];exact eR)
 ·have c:(B5 d).2=0:=by simpa using ‹((B5 d).2 != 0)=false›
  obtain⟨e,-,-⟩:=BU c;exact(Ax e).2.1
 ·have c:(B5 d).2=0:=by simpa using ‹((B5 d).2 != 0)=false›
  have h1:Aw d=LG d:=by
   unfold Aw;rw[At (by rw[c];simp),At (by omega),BY a]
  exact fI b [.tmp 2] (by rw[h1];exact eR)
 ·have c:(B5 d).2=0:=by simpa using ‹((B5 d).2 != 0)=false›
  have v:LG d=0:=by simpa using a
  obtain⟨e,C,B⟩:=BU c;obtain⟨H,r,-⟩:=Ax e;have E:=QF e v;have K:=Oc e;have M:=sI e;have D:(AL d).length<=256:=by rw[IV];exact C
  have g:Aw d=if ((BL d).all λs=>(De d s).2)=false then 10 else if IX d (B5 d).1 (BL d) (B5 d).1.length=true then 11 else 0:=by
   unfold Aw;rw[At (by rw[c];simp),At (by omega),At (by rw[v];simp)]
  rw[B]at g ⊢;generalize AL d=l at *;generalize BL d=f at *;refine AG (ι:={i:Nat//i<=f.length/\((f.take i).all λs=>(De d s).2)=true}) (λi=>⟨[(0,.p FP d),(3,.p KF l),(5,.p B9 f),(7,.p (.int .i64) (i.1:Int))],[]⟩) (λi=>f.length-i.1) ⟨0,Is _,rfl⟩ (eW []) (λi=>?_)
  ·obtain⟨i,hi,n⟩:=i;have G:=λh:i<f.length=>Ge f ByteArray.empty (λs=>(De d s).2) h;simp only;repeat'(first|exact trivial|refine eS rfl ?_|refine AB ?_|refine rX b ?_ ?_|refine rC ?_ ?_<;>intro a<;>try(cases a;done))
   ·exact⟨a,H,r⟩
   ·have j:i<f.length:=No.1 (by assumption);have z:(f.all λs=>(De d s).2)=false:=by
     rw[ACF];intro h;have:=IN.1 h _ (AD f ByteArray.empty j);rw[show (De d (f.getD i ByteArray.empty)).2=false from a]at this;cases this
    rw[BY z]at g;exact fI b [.tmp 2] (by rw[g];exact eR)
   ·omega
   ·have j:i<f.length:=No.1 (by assumption);refine⟨⟨i+1,j,?_⟩,by simp only;omega,AC [] rfl rfl ?_ ?_⟩
    ·rw[G j,n];exact a
    ·exact eN
    ·exact eN
   ·have j:f.take i=f:=An (aT.1 a);rw[j]at n;rw[At (by rw[n];simp)]at g;refine AG (ι:={t:Nat//t<=l.length/\IX d l f t=false}) (λt=>⟨[(0,.p FP d),(3,.p KF l),(5,.p B9 f),(10,.p (.int .i64) (t.1:Int))],[]⟩) (λt=>l.length-t.1) ⟨0,Is _,rfl⟩ (eW []) (λt=>?_)
    ·obtain⟨t,N,y⟩:=t;have J:=dQ d l f t;simp only;repeat'(first|exact trivial|refine eS rfl ?_|refine rX b ?_ ?_|refine rC ?_ ?_<;>intro a<;>try(cases a;done))
     ·have w:t<l.length:=No.1 a;refine AG (ι:={k:Nat//k<=f.length/\(f.take k).any (LJ d l t)=false}) (λk=>⟨[(0,.p FP d),(3,.p KF l),(5,.p B9 f),(10,.p (.int .i64) (t:Int)),(11,.p (.int .i64) (k.1:Int))],[]⟩) (λk=>f.length-k.1) ⟨0,Is _,rfl⟩ (eW []) (λk=>?_)
      ·obtain⟨k,hk,o⟩:=k;have F:=λh:k<f.length=>NA f ByteArray.empty (LJ d l t) h;simp only;repeat'(first|exact trivial|refine eS rfl ?_|refine AB ?_|refine rX b ?_ ?_|refine rC ?_ ?_<;>intro a<;>try(cases a;done))
       ·exact⟨a,E,by assumption,D,K⟩
       ·have m:k<f.length:=No.1 (by assumption);have q:LJ d l t (f.getD k ByteArray.empty)=true:=by
         unfold LJ;rw[As,AAN];exact a
        have A:IX d l f l.length=true:=by
         unfold IX;rw[iS];exact⟨t,oR.2 w,JM f ByteArray.empty _ m q⟩
        rw[BY A]at g;exact fI b [.tmp 2] (by rw[g];exact eR)
       ·omega
       ·have m:k<f.length:=No.1 (by assumption);have q:LJ d l t (f.getD k ByteArray.empty)=false:=by
         rw[ACF];unfold LJ;intro h;rw[As,AAN]at h;exact a h.1 h.2
        refine⟨⟨k+1,m,?_⟩,by simp only;omega,AC [] rfl rfl ?_ ?_⟩
        ·rw[F m,o,q];rfl
        ·exact eN
        ·exact eN
       ·omega
       ·have m:f.take k=f:=An (aT.1 a);rw[m]at o;refine⟨⟨t+1,w,?_⟩,by simp only;omega,AC [] rfl rfl ?_ ?_⟩
        ·rw[J,y];exact o
        ·exact eN
        ·exact eN
     ·have I:t=l.length:=by exact eV
      subst I;rw[At (by rw[y];simp)]at g;exact fI b [.tmp 2] (by rw[g];exact eR)
end
section
attribute [local go_sem] TU RR Uy Zi TT
abbrev A13:=ByteArray×Int
theorem CC {d:List AI} (h:Aw d=0):(B5 d).2=0/\(BL d).length<=64/\LG d=0:=by
 unfold Aw at h;split at h
 ·rename_i h1;exact absurd h h1
 ·rename_i h1;split at h
  ·cases h
  ·rename_i b;split at h
   ·rename_i a;exact absurd h a
   ·rename_i a;exact⟨DO h1,by omega,DO a⟩
def QG (d:List AI) (s:ByteArray):A13:=(s,BK (AL d) (De d s).1)
def EX (d:List AI):List A13×Int:=if Aw d≠0 then ([],Aw d) else ((BL d).map (QG d),0)
theorem Df {α β:Type} (f:α->β) (l:List α) (d:α) {k:Nat} (h:k<l.length):(l.take (k+1)).map f=(l.take k).map f++[f (l.getD k d)]:=by
 rw[AW l d h,AAs];rfl
theorem Zk {α β:Type} (f:α->β) (l:List α) {k:Nat} (h:k<=l.length):((l.take k).map f).length=k:=by simp[h]
def RS:Ae:={ ins:=[FP],pre:=λ_=>True,out:=λ(d,_)=>[.p TQ (EX d).1,.p Wq (EX d).2] }
theorem dR:Af Tryz.prog 66 RS:=by
 refine fK [0,2,3,4,5,7,8,9,10,15,27] Tryz.func66 Tryz.ntmps66 (AF X3 (AF QE (AF Uz (AF dL (AF Xs AH))))) ?_;rintro w0 O0 ⟨d,u⟩ g - -;simp only[RS,AM];repeat'(first|exact trivial|refine eS rfl ?_|refine rX g ?_ ?_|refine rC ?_ ?_<;>intro a<;>try(cases a;done))
 ·have h1:EX d=([],Aw d):=by unfold EX;rw[BY a]
  exact fI g [.tmp 2,.tmp 3] (by rw[h1];exact eR)
 ·have c:Aw d=0:=by simpa using a
  obtain⟨k,-,-⟩:=CC c;obtain⟨b,-,-⟩:=BU k;exact⟨(Ax b).2.1,λx r=>(LI b x r).2⟩
 ·have c:Aw d=0:=by simpa using a
  obtain⟨k,s,-⟩:=CC c;obtain⟨b,-,m⟩:=BU k;obtain⟨q,l,-⟩:=Ax b;have o:EX d=((BL d).map (QG d),0):=by unfold EX;rw[At (by rw[c];simp)]
  rw[m];generalize BL d=f at *;refine AG (ι:={i:Nat//i<=f.length}) (λi=>⟨[(0,.p FP d),(5,.p KF (AL d)),(7,.p B9 f),(8,.sr 49 A0r 0 ((f.take i.1).map (QG d)).length),(9,.p (.int .i64) (i.1:Int))],[(49,.arr 116 A0r ((f.take i.1).map (QG d)))]⟩) (λi=>f.length-i.1) ⟨0,Is _⟩ (eW [(49,.nil)]) (λi=>?_)
  ·obtain⟨i,hi⟩:=i;have n:=Zk (QG d) f hi;have hs:=λh:i<f.length=>Df (QG d) f ByteArray.empty h;simp only;repeat'(first|exact trivial|refine eS rfl ?_|refine AB ?_|refine rX g ?_ ?_|refine rC ?_ ?_<;>intro a<;>try(cases a;done))
   ·exact⟨a,q,l⟩
   ·refine⟨a,?_⟩;rw[n];simp only[AO];omega
   ·omega
   ·have j:i<f.length:=No.1 a;have e:=hs j;refine⟨⟨i+1,j⟩,by simp only;omega,AC [(49,.nm 49)] rfl rfl ?_ ?_⟩
    ·simp only[e];refine eM ?_;rfl
    ·simp only[e];exact eN
   ·have j:f.take i=f:=An (aT.1 a);rw[j];refine Gc [49] ?_;exact fI g [.tmp 2,.tmp 3] (by rw[o];exact eR)
end
section
attribute [local go_sem] TU RR Uy A58 jQ
def S6 (d:List AI) (l:List AQ) (f:List ByteArray) (t:Nat) (n:Nat):List (Int×Int) :=
 ((List.range n).filter λ(i:Nat)=>(FA d l (t:Int) (f.getD i ByteArray.empty)).2).map λ(i:Nat)=>((i:Int),HL l (FA d l (t:Int) (f.getD i ByteArray.empty)).1)
def KK (d:List AI) (l:List AQ) (f:List ByteArray) (n:Nat):List (List (Int×Int)):=(List.range n).map λt=>S6 d l f t f.length
def BC (d:List AI):List (List (Int×Int))×Int:=if Aw d≠0 then ([],Aw d) else (KK d (AL d) (BL d) (AL d).length,0)
theorem X4 (d:List AI) (l:List AQ) (f:List ByteArray) (t n:Nat):S6 d l f t (n+1)=S6 d l f t n++if (FA d l (t:Int) (f.getD n ByteArray.empty)).2=true then [((n:Int),HL l (FA d l (t:Int) (f.getD n ByteArray.empty)).1)] else []:=by
 unfold S6;rw[AAq,ABQ,AAs]
 congr 1
 rw[AAE,ACu];split<;>rfl
theorem A14 (d:List AI) (l:List AQ) (f:List ByteArray) (t n:Nat):(S6 d l f t n).length<=n:=by
 unfold S6;rw[On];exact Qo (AB9 _ _) (by simp)
theorem j9 (d:List AI) (l:List AQ) (f:List ByteArray) (n:Nat):KK d l f (n+1)=KK d l f n++[S6 d l f n f.length]:=by simp[KK,AAq]
theorem X5 (d:List AI) (l:List AQ) (f:List ByteArray) (n:Nat):(KK d l f n).length=n:=by simp[KK]
theorem A15 {d:List AI} {l:List AQ} (h:∀x∈l,x.2.length<=64) (t:Int) (s:ByteArray):(FA d l t s).1.length<=64:=by
 unfold FA;refine VG t s d ?_;rw[AS];cases hh:l[0]? with
 | none=>simp
 | some x=>exact h x (AB2 hh)
def VH:Ae:={ ins:=[FP],pre:=λ_=>True,out:=λ(d,_)=>[.p T45 (BC d).1,.p Wq (BC d).2] }
theorem kA:Af Tryz.prog 63 VH:=by
 refine fK [0,2,3,4,5,7,8,9,10,11,12,13,17,29,35,49] Tryz.func63 Tryz.ntmps63 (AF X3 (AF QE (AF Uz (AF A12 (AF A0P AH))))) ?_;rintro w0 O0 ⟨d,u⟩ e - -;simp only[VH,AM];repeat'(first|exact trivial|refine eS rfl ?_|refine rX e ?_ ?_|refine rC ?_ ?_<;>intro a<;>try(cases a;done))
 ·have h1:BC d=([],Aw d):=by unfold BC;rw[BY a]
  exact fI e [.tmp 2,.tmp 3] (by rw[h1];exact eR)
 ·have h:Aw d=0:=by simpa using a
  obtain⟨m,-,-⟩:=CC h;obtain⟨b,-,-⟩:=BU m;exact⟨(Ax b).2.1,λx z=>(LI b x z).2⟩
 ·have h:Aw d=0:=by simpa using a
  obtain⟨m,B,o⟩:=CC h;obtain⟨b,j,r⟩:=BU m;obtain⟨D,A,-⟩:=Ax b;have y:BC d=(KK d (AL d) (BL d) (AL d).length,0):=by unfold BC;rw[At (by rw[h];simp)]
  have w:=QF b o;have n:=Oc b;have v:(AL d).length<=256:=by rw[IV];exact j
  rw[r];generalize AL d=l at *;generalize BL d=f at *;have q:=λt s=>A15 (d:=d) n t s;refine AG (ι:={t:Nat//t<=l.length}) (λt=>⟨[(0,.p FP d),(5,.p KF l),(7,.p B9 f),(8,.sr 61 cJ 0 (KK d l f t.1).length),(9,.p (.int .i64) (t.1:Int))],[(61,.arr 82 cJ (KK d l f t.1))]⟩) (λt=>l.length-t.1) ⟨0,Is _⟩ (AC [(61,.nil)] rfl rfl ?_ ?_) (λt=>?_)
  ·refine eM ?_;rfl
  ·refine eM ?_;rfl
  ·obtain⟨t,E⟩:=t;have j:=X5 d l f t;have hs:=j9 d l f t;simp only;repeat'(first|exact trivial|refine eS rfl ?_|refine rX e ?_ ?_|refine rC ?_ ?_<;>intro a<;>try(cases a;done))
   ·refine AG (ι:={i:Nat//i<=f.length}) (λi=>⟨[(0,.p FP d),(5,.p KF l),(7,.p B9 f),(8,.sr 61 cJ 0 (KK d l f t).length),(9,.p (.int .i64) (t:Int)),(10,.sr 57 T87 0 (S6 d l f t i.1).length),(11,.p (.int .i64) (i.1:Int))],[(61,.arr 82 cJ (KK d l f t)),(57,.arr 87 T87 (S6 d l f t i.1))]⟩) (λi=>f.length-i.1) ⟨0,Is _⟩ (AC [(61,.nm 61),(57,.nil)] rfl rfl ?_ ?_) (λi=>?_)
    ·refine eM ?_;rfl
    ·refine eM ?_;rfl
    ·obtain⟨i,hi⟩:=i;have C:=A14 d l f t i;have c:=X4 d l f t i;simp only;repeat'(first|exact trivial|refine eS rfl ?_|refine AB ?_|refine rX e ?_ ?_|refine rC ?_ ?_<;>intro a<;>try(cases a;done))
     ·exact⟨a,w,by assumption,v,n⟩
     ·refine⟨Qo (q _ _) (by decide),?_⟩;simp only[AO];omega
     ·omega
     ·have g:i<f.length:=No.1 (by assumption);rw[BY a]at c;refine⟨⟨i+1,g⟩,by simp only;omega,AC [(61,.nm 61),(57,.nm 57)] rfl rfl ?_ ?_⟩
      ·simp only[c];exact eN
      ·simp only[c];exact eN
     ·omega
     ·have g:i<f.length:=No.1 (by assumption);rw[At (by rw[a];simp),AAu]at c;refine⟨⟨i+1,g⟩,by simp only;omega,AC [(61,.nm 61),(57,.nm 57)] rfl rfl ?_ ?_⟩
      ·simp only[c];exact eN
      ·simp only[c];exact eN
     ·rw[j];simp only[AO];omega
     ·omega
     ·have k:t<l.length:=No.1 (by assumption);have g:i=f.length:=by omega
      subst g;refine⟨⟨t+1,k⟩,by simp only;omega,AC [(61,.nm 61)] rfl rfl ?_ ?_⟩
      ·simp only[hs];exact eN
      ·simp only[hs];exact eN
   ·have k:t=l.length:=by omega
    subst k;refine Gc [61] ?_;exact fI e [.tmp 2,.tmp 3] (by rw[y];exact eR)
end
section
attribute [local go_sem] cs0
def Lh (l:List ByteArray) (n:Nat):List FV:=(List.range n).map λk=>(l.getD (2*k) ByteArray.empty,l.getD (2*k+1) ByteArray.empty)
theorem VI (l:List ByteArray) (n:Nat):Lh l (n+1)=Lh l n++[(l.getD (2*n) ByteArray.empty,l.getD (2*n+1) ByteArray.empty)]:=by simp[Lh,AAq]
theorem X6 (l:List ByteArray) (n:Nat):(Lh l n).length=n:=by simp[Lh]
def Zl (s:ByteArray):List ByteArray:=if Ac s ByteArray.empty=true then [] else [s]
def GQ (n s:ByteArray) (l:List ByteArray):AI:=(n,Zl s,Lh l (l.length / 2))
def A16:Ae:={ ins:=[T9,T9,B9],pre:=λ(_,_,l,_)=>List.length l<=1000,out:=λ(n,s,l,_)=>[.p vQ (GQ n s l)] }
theorem A59:Af Tryz.prog 67 A16:=by
 refine fK [0,1,2,6,7,8,12,20] Tryz.func67 Tryz.ntmps67 AH ?_;rintro w0 O0 ⟨n,s,l,u⟩ b-i;have i:l.length<=1000:=i;simp only[A16,AM];repeat'(first|exact trivial|refine eS rfl ?_|refine AB ?_|refine rX b ?_ ?_|refine rC ?_ ?_<;>intro a<;>try(cases a;done))
 ·have f:=a;refine Gc [14] ?_;refine AG (ι:={k:Nat//2*k<=l.length}) (λk=>⟨[(2,.p B9 l),(6,.bp 6 [] 0),(7,.bp 7 [] 0),(8,.p (.int .i64) ((2*k.1:Nat):Int))],[(6,.box 111 true [.p T9 ByteArray.empty,.raw (.slice none 0 0),.raw (.slice none 0 0)]),(7,.box 111 true [.p T9 n,.p B9 [s],.sr 36 jD 0 (Lh l k.1).length]),(36,.arr 154 jD (Lh l k.1))]⟩) (λk=>l.length-2*k.1) ⟨0,Is _⟩ (AC [(6,.nm 6),(7,.nm 7),(36,.nil)] rfl rfl ?_ ?_) (λk=>?_)
  ·first|exact eN|refine eM ?_
   exact⟨rfl,rfl⟩
  ·first|exact eN|refine eM ?_
  ·obtain⟨k,hk⟩:=k;have g:=X6 l k;have d:=VI l k;simp only;repeat'(first|exact trivial|refine eS rfl ?_|refine AB ?_|refine rX b ?_ ?_|refine rC ?_ ?_<;>intro a<;>try(cases a;done))
   ·exact eV
   ·refine⟨by exact eV,⟨by exact eV,by exact eV⟩,⟨by exact eV,by exact eV⟩,?_⟩;rw[g];simp only[AO];exact eV
   ·exact eV
   ·have c:2*k+1<l.length:=by exact eV
    have e:((2*k:Nat):Int)+1=((2*k+1:Nat):Int):=by omega
    refine⟨⟨k+1,by omega⟩,by simp only;omega,AC [(6,.nm 6),(7,.nm 7),(36,.nm 36)] rfl rfl ?_ ?_⟩
    ·simp only[d];first|exact eN|refine eM ?_
     rw[e];rfl
    ·simp only[d];first|exact eN|refine eM ?_
     show ((2*k:Nat):Int)+2=((2*(k+1):Nat):Int);omega
   ·have c:k=l.length / 2:=by exact eV
    refine Gc [36] ?_;have h:GQ n s l=(n,[s],Lh l k):=by
     unfold GQ Zl;rw[<-c,At (by rw[show Ac s ByteArray.empty=false from f];simp)]
    exact fI b [.cell 6 111] (by rw[h];exact eR)
 ·have f:=a;refine AG (ι:={k:Nat//2*k<=l.length}) (λk=>⟨[(2,.p B9 l),(6,.bp 6 [] 0),(7,.bp 7 [] 0),(8,.p (.int .i64) ((2*k.1:Nat):Int))],[(6,.box 111 true [.p T9 ByteArray.empty,.raw (.slice none 0 0),.raw (.slice none 0 0)]),(7,.box 111 true [.p T9 n,.p B9 ([]:List ByteArray),.sr 36 jD 0 (Lh l k.1).length]),(36,.arr 154 jD (Lh l k.1))]⟩) (λk=>l.length-2*k.1) ⟨0,Is _⟩ (AC [(6,.nm 6),(7,.nm 7),(36,.nil)] rfl rfl ?_ ?_) (λk=>?_)
  ·first|exact eN|refine eM ?_
   exact⟨rfl,rfl⟩
  ·first|exact eN|refine eM ?_
  ·obtain⟨k,hk⟩:=k;have g:=X6 l k;have d:=VI l k;simp only;repeat'(first|exact trivial|refine eS rfl ?_|refine AB ?_|refine rX b ?_ ?_|refine rC ?_ ?_<;>intro a<;>try(cases a;done))
   ·exact eV
   ·refine⟨by exact eV,⟨by exact eV,by exact eV⟩,⟨by exact eV,by exact eV⟩,?_⟩;rw[g];simp only[AO];exact eV
   ·exact eV
   ·have c:2*k+1<l.length:=by exact eV
    have e:((2*k:Nat):Int)+1=((2*k+1:Nat):Int):=by omega
    refine⟨⟨k+1,by omega⟩,by simp only;omega,AC [(6,.nm 6),(7,.nm 7),(36,.nm 36)] rfl rfl ?_ ?_⟩
    ·simp only[d];first|exact eN|refine eM ?_
     rw[e];rfl
    ·simp only[d];first|exact eN|refine eM ?_
     show ((2*k:Nat):Int)+2=((2*(k+1):Nat):Int);omega
   ·have c:k=l.length / 2:=by exact eV
    refine Gc [36] ?_;have h:GQ n s l=(n,([]:List ByteArray),Lh l k):=by
     unfold GQ Zl;rw[<-c,BY (show Ac s ByteArray.empty=true from f)]
    exact fI b [.cell 6 111] (by rw[h];exact eR)
end
section
attribute [local go_sem] A16 cs0 cs1 cs2 cs3 cs4 cs5 cs6 cs7 cs8
def IY:List AI:=[
 GQ { data:=#[116,111,112] } { data:=#[] } [],
 GQ { data:=#[108,105,115,116] } { data:=#[116,111,112] } [],
 GQ { data:=#[99,111,110,115] } { data:=#[108,105,115,116] } [{ data:=#[70,73,82,83,84] },{ data:=#[116,111,112] },{ data:=#[82,69,83,84] },{ data:=#[108,105,115,116] }],
 GQ { data:=#[110,117,108,108] } { data:=#[108,105,115,116] } [],
 GQ { data:=#[100,108,105,115,116] } { data:=#[116,111,112] } [{ data:=#[76,73,83,84] },{ data:=#[108,105,115,116] },{ data:=#[76,65,83,84] },{ data:=#[108,105,115,116] }],
 GQ { data:=#[105,110,100,101,120] } { data:=#[116,111,112] } [],
 GQ { data:=#[104,97,110,100,108,101] } { data:=#[105,110,100,101,120] } [],
 GQ { data:=#[101,118,101,110,116] } { data:=#[105,110,100,101,120] } [],
 GQ { data:=#[101,110,116,105,116,121] } { data:=#[105,110,100,101,120] } [],
 GQ { data:=#[114,101,108] } { data:=#[116,111,112] } [{ data:=#[76,65,66,69,76] },{ data:=#[104,97,110,100,108,101] }],
 GQ { data:=#[113,101,113] } { data:=#[116,111,112] } [{ data:=#[72,73,71,72] },{ data:=#[104,97,110,100,108,101] },{ data:=#[76,79,87] },{ data:=#[104,97,110,100,108,101] }],
 GQ { data:=#[115,101,109] } { data:=#[116,111,112] } [{ data:=#[84,79,80] },{ data:=#[104,97,110,100,108,101] },{ data:=#[73,78,68,69,88] },{ data:=#[105,110,100,101,120] },{ data:=#[82,69,76,83] },{ data:=#[100,108,105,115,116] },{ data:=#[67,79,78,83] },{ data:=#[100,108,105,115,116] }],
 GQ { data:=#[115,105,103,110] } { data:=#[116,111,112] } [{ data:=#[83,69,77] },{ data:=#[115,101,109] },{ data:=#[65,82,71,83] },{ data:=#[108,105,115,116] }]]
def QH:Ae:={ ins:=[],pre:=λ_=>True,out:=λ_=>[.p FP IY] }
theorem kB:Af Tryz.prog 37 QH:=by
 refine fKP [0] [3,6,12,14,16,18,20] [] Tryz.func37 Tryz.ntmps37 (AF A59 AH) ?_;rintro w0 O0 u a - -;simp only[QH,AM];repeat'(first|exact trivial|refine eS rfl ?_|refine rX a ?_ ?_)
 exact fI a [.tmp 0] (by unfold IY;exact eR)
end
section
attribute [local go_sem] VH RR A0Y RS
abbrev HA:=ByteArray×List Int×List Int×List (Int×Int)
abbrev AJ:=List HA×List A13
def Ed (l:List AQ) (v:List (List (Int×Int))) (n:Nat):List HA:=(List.range n).map λi=>((l.getD i c0).1,(l.getD i c0).2,X0 l (i:Int),v.getD i [])
theorem kC (l:List AQ) (v:List (List (Int×Int))) (n:Nat):Ed l v (n+1)=Ed l v n++[((l.getD n c0).1,(l.getD n c0).2,X0 l (n:Int),v.getD n [])]:=by simp[Ed,AAq]
theorem KL (l:List AQ) (v:List (List (Int×Int))) (n:Nat):(Ed l v n).length=n:=by simp[Ed]
def Bn (d:List AI):AJ:=(Ed (AL d) (BC d).1 (AL d).length,(EX d).1)
def Az (d:List AI):AJ×Int:=if (BC d).2≠0 then (([],[]),(BC d).2) else (Bn d,0)
def QI:Ae:={ ins:=[FP],pre:=λ_=>True,out:=λ(d,_)=>[.p F7 (Az d).1,.p Wq (Az d).2] }
theorem kD:Af Tryz.prog 36 QI:=by
 refine fK [0,2,3,4,5,6,8,9,10,18,29] Tryz.func36 Tryz.ntmps36 (AF kA (AF QE (AF A56 (AF dR AH)))) ?_;rintro w0 O0 ⟨d,u⟩ b - -;simp only[QI,AM];repeat'(first|exact trivial|refine eS rfl ?_|refine rX b ?_ ?_|refine rC ?_ ?_<;>intro a<;>try(cases a;done))
 ·have h1:Az d=(([],[]),(BC d).2):=by unfold Az;rw[BY a]
  exact fI b [.cell 2 31,.tmp 3] (by rw[h1];exact eR)
 ·have c:(BC d).2=0:=by simpa using a
  have f:Aw d=0:=by
   unfold BC at c;split at c
   ·rename_i h;exact absurd c h
   ·rename_i h;exact DO h
  obtain⟨t,x,w⟩:=CC f;obtain⟨j,m,k⟩:=BU t;have g:Az d=(Bn d,0):=by unfold Az;rw[At (by rw[c];simp)]
  have r:(BC d).1.length=(AL d).length:=by
   unfold BC;rw[At (by rw[f];simp)];exact X5 _ _ _ _
  have s:=Oc j;have o:(AL d).length<=256:=by rw[IV];exact m
  unfold Bn at g;rw[k];generalize AL d=l at *;generalize (BC d).1=v at *;refine AG (ι:={n:Nat//n<=l.length}) (λn=>⟨[(0,.p FP d),(2,.bp 2 [] 0),(4,.p T45 v),(6,.p KF l),(8,.bp 8 [] 0),(9,.p (.int .i64) (n.1:Int))],[(2,.box 31 true [.raw (.slice none 0 0),.raw (.slice none 0 0)]),(8,.box 31 true [.sr 53 T84 0 (Ed l v n.1).length,.raw (.slice none 0 0)]),(53,.arr 84 T84 (Ed l v n.1))]⟩) (λn=>l.length-n.1) ⟨0,Is _⟩ (AC [(2,.nm 2),(8,.nm 8),(53,.nil)] rfl rfl ?_ ?_) (λn=>?_)
  ·refine eM ?_;exact⟨rfl,rfl⟩
  ·exact eN
  ·obtain⟨n,hn⟩:=n;have q:=KL l v n;have i:=kC l v n;simp only;repeat'(first|exact trivial|refine eS rfl ?_|refine AB ?_|refine rX b ?_ ?_|refine rC ?_ ?_<;>intro a<;>try(cases a;done))
   ·refine⟨a,a,⟨a,o,s⟩,by rw[r];exact a,?_⟩;rw[q];simp only[AO];omega
   ·omega
   ·have e:n<l.length:=No.1 a;refine⟨⟨n+1,e⟩,by simp only;omega,AC [(2,.nm 2),(8,.nm 8),(53,.nm 53)] rfl rfl ?_ ?_⟩
    ·simp only[i];exact eN
    ·simp only[i];exact eN
   ·have e:n=l.length:=by omega
    subst e;refine Gc [53] ?_;exact fI b [.cell 2 31,.tmp 3] (by rw[g];exact eR)
end
abbrev A9Y:=Int×List (Int×Int)
def HN (f:List A9Y):Bool:=decide (f.length<=12)&&f.all λn=>decide (n.2.length<=12)
def VJ:Ae:={ ins:=[D8],pre:=λ_=>True,out:=λ(f,_)=>[.p .bool (HN f)] }
theorem A17:Af Tryz.prog 12 VJ:=by
 refine fK [0,1,2,3,7,12,22] Tryz.func12 Tryz.ntmps12 AH ?_;rintro w0 O0 ⟨l,u⟩ a e f;simp only[VJ,AM];repeat'(first|exact trivial|refine eS rfl ?_|refine rX a ?_ ?_|refine rC ?_ ?_<;>intro b<;>try(cases b;done))
 ·have h1:HN l=false:=by
   have h:¬(List.length l<=12):=by exact eV
   unfold HN;rw[ACi h];rfl
  exact fI a [.tmp 2] (by rw[h1];exact eR)
 ·refine AG (ι:={k:Nat//k<=l.length/\(l.take k).all (λn=>decide (n.2.length<=12))=true}) (λk=>⟨[(0,.p D8 l),(1,.bp 1 [] 0),(3,.p (.int .i64) (k.1:Int))],[(1,.box 25 true [.p Dv l])]⟩) (λk=>l.length-k.1) ⟨0,by simp⟩ (AC [(1,.nm 1)] rfl rfl ?_ ?_) (λk=>?_)
  ·exact eN
  ·exact eN
  ·obtain⟨k,hk,c⟩:=k;repeat'(first|exact trivial|refine eS rfl ?_|refine AB ?_|refine rX a ?_ ?_|refine rC ?_ ?_<;>intro b<;>try(cases b;done))
   ·exact eV
   ·have h1:HN l=false:=by
     have hk:k<l.length:=by exact eV
     have h:=AD l (0,[]) hk;unfold HN;rw[ABh];right;rw[ABq];exact⟨_,h,by simp only[IS];exact eV⟩
    exact fI a [.tmp 2] (by rw[h1];exact eR)
   ·exact eV
   ·have hk:k<l.length:=by exact eV
    refine⟨⟨k+1,by exact eV,?_⟩,by simp only;exact eV,AC [(1,.nm 1)] rfl rfl ?_ ?_⟩
    ·have h1:=AW l (0,[]) hk;have d:((l.take (k+1)).all λn=>decide (n.2.length<=12))=_:=ABr (λx=>List.all x λn=>decide (n.2.length<=12)) h1;rw[d,ACb,c];simp only[ABH,List.all_nil,Bool.and_true,ACx,IS];exact eV
    ·exact eN
    ·exact eN
   ·have h1:HN l=true:=by
     have hk:l.take k=l:=An (by exact eV);rw[hk]at c;unfold HN;rw[c,AC6 (by exact eV)];rfl
    exact fI a [.tmp 2] (by rw[h1];exact eR)
def HB (n:Int) (seen:List (Int×Int)):List (Int×Int)->Int
 | []=>0
 | x :: r=>if x.1<0\/x.2<0\/n<=x.2 then 2 else if (seen.any λy=>y.1==x.1)=true then 4 else HB n (seen++[x]) r
def IZ (l:List (Int×Int)) (n:Int):Int:=HB n [] l
def dS:Ae:={ ins:=[Ce,T3],pre:=λ_=>True,out:=λ(l,n,_)=>[.p Wq (IZ l n)] }
theorem Od (n:Int) (l:List (Int×Int)) {k:Nat} (h:k<l.length):HB n (l.take k) (l.drop k)=if (l.getD k (0,0)).1<0\/(l.getD k (0,0)).2<0\/n<=(l.getD k (0,0)).2 then 2 else if ((l.take k).any λy=>y.1==(l.getD k (0,0)).1)=true then 4 else HB n (l.take (k+1)) (l.drop (k+1)):=by
 rw[AW l (0,0) h,Of h,AS,AT h];rfl
theorem Wy (l:List (Int×Int)) (f:Int) {k:Nat} (h:k<l.length):((l.take (k+1)).any λy=>y.1==f)=((l.take k).any (λy=>y.1==f)||((l.getD k (0,0)).1==f)):=by
 rw[AW l (0,0) h,ACv];simp
theorem A5a:Af Tryz.prog 141 dS:=by
 refine fK [0,1,4,5,6,10,35,38,51] Tryz.func141 Tryz.ntmps141 AH ?_;rintro w0 O0 ⟨l,n,u⟩ b ⟨⟨h,-⟩,-⟩ -;simp only[AO]at h;simp only[dS,AM];repeat'(first|exact trivial|refine eS rfl ?_|refine rX b ?_ ?_)
 refine AG (ι:={k:Nat//k<=l.length/\HB n (l.take k) (l.drop k)=IZ l n}) (λk=>⟨[(0,.p Ce l),(1,.p T3 n),(5,.p (.int .i64) (k.1:Int))],[]⟩) (λk=>l.length-k.1) ⟨0,by simp[IZ]⟩ (AC [] rfl rfl ?_ ?_) (λk=>?_)
 ·exact eN
 ·exact eN
 ·obtain⟨k,hk,c⟩:=k;repeat'(first|exact trivial|refine eS rfl ?_|refine rX b ?_ ?_|refine rC ?_ ?_<;>intro a<;>try(cases a;done))
  ·exact eV
  ·have hk:k<l.length:=by exact eV
   have h1:IZ l n=2:=by
    rw[<-c,Od n l hk,BY (by rw[<-or_assoc];exact a)]
   exact fI b [.tmp 4] (by rw[h1];exact eR)
  ·have hk:k<l.length:=by exact eV
   have hn:¬((l.getD k (0,0)).1<0\/(l.getD k (0,0)).2<0\/n<=(l.getD k (0,0)).2):=by
    have:=a;generalize l.getD k (0,0)=x at this;exact eV
   rw[Od n l hk,At hn]at c;refine AG (ι:={j:Nat//j<=k/\((l.take j).any λy=>y.1==(l.getD k (0,0)).1)=false}) (λj=>⟨[(0,.p Ce l),(1,.p T3 n),(5,.p (.int .i64) (k:Int)),(6,.p (.int .i64) (j.1:Int))],[]⟩) (λj=>k-j.1) ⟨0,by simp⟩ (AC [] rfl rfl ?_ ?_) (λj=>?_)
   ·exact eN
   ·exact eN
   ·obtain⟨j,i,f⟩:=j;repeat'(first|exact trivial|refine eS rfl ?_|refine AB ?_|refine rX b ?_ ?_|refine rC ?_ ?_<;>intro a<;>try(cases a;done))
    ·exact eV
    ·have e:j<l.length:=by exact eV
     have h1:IZ l n=4:=by
      have d:((l.take k).any λy=>y.1==(l.getD k (0,0)).1)=true:=by
       rw[iS];refine⟨l.getD j (0,0),?_,by simpa using a⟩;rw[AS,AT e];exact AC7.2 ⟨j,by exact eV,rfl⟩
      rw[<-c,BY d]
     exact fI b [.tmp 4] (by rw[h1];exact eR)
    ·exact eV
    ·have e:j<l.length:=by exact eV
     refine⟨⟨j+1,by exact eV,?_⟩,by simp only;exact eV,AC [] rfl rfl ?_ ?_⟩
     ·have d:=Wy l (l.getD k (0,0)).1 e;refine d.trans ?_;rw[f];simpa using a
     ·exact eN
     ·exact eN
    ·exact eV
    ·have g:j=k:=by exact eV
     subst g;refine⟨⟨j+1,by exact eV,?_⟩,by simp only;exact eV,AC [] rfl rfl ?_ ?_⟩
     ·rw[<-c,At (by rw[f];simp)]
     ·exact eN
     ·exact eN
  ·have h1:IZ l n=0:=by
    have hk:l.length<=k:=by exact eV
    rw[<-c,IF hk];rfl
   exact fI b [.tmp 4] (by rw[h1];exact eR)
def VK (n:Int×List (Int×Int)):List Int:=n.1 :: (n.2.length:Int) :: n.2.flatMap λa=>[a.1,a.2]
def Bu (f:List (Int×List (Int×Int))):List Int:=(f.length:Int) :: f.flatMap VK
def Wz (l:List (Int×List (Int×Int))) (k:Nat):List Int:=(l.length:Int) :: (l.take k).flatMap VK
def VL (l:List (Int×List (Int×Int))) (k j:Nat):List Int:=Wz l k++[(l.getD k (0,[])).1,((l.getD k (0,[])).2.length:Int)]++((l.getD k (0,[])).2.take j).flatMap λa=>[a.1,a.2]
theorem RT:∀l:List (Int×Int),(l.flatMap λa=>[a.1,a.2]).length=2*l.length
 | []=>rfl
 | x :: l=>by simp[RT l];omega
theorem A18 (n:Int×List (Int×Int)):(VK n).length=2+2*n.2.length:=by
 have:=RT n.2;simp only[VK,OS];omega
theorem VM:∀l:List (Int×List (Int×Int)),(∀n∈l,n.2.length<=100000)->(l.flatMap VK).length<=l.length*200002
 | [],_=>by simp
 | x :: l,h=>by
  have h1:=h x (by simp);have a:=VM l (λn hn=>h n (by simp[hn]));have b:=A18 x;simp only[ACl,GO,OS];omega
theorem dT {l:List (Int×List (Int×Int))} (h:∀n∈l,n.2.length<=100000) {k:Nat} (hk:k<=l.length):(Wz l k).length<=1+k*200002:=by
 have h1:=VM (l.take k) (λn hn=>h n (AAT hn));rw[ON,ABk hk]at h1;simp only[Wz,OS];omega
theorem A19 {l:List (Int×List (Int×Int))} (h:∀n∈l,n.2.length<=100000) {k j:Nat} (hk:k<l.length) (b:j<=(l.getD k (0,[])).2.length):(VL l k j).length<=3+k*200002+2*j:=by
 have h1:=dT h (ACj hk);have a:=RT ((l.getD k (0,[])).2.take j);rw[ON,ABk b]at a;simp only[VL,GO,OS,ABn];omega
theorem X7 {l:List (Int×List (Int×Int))} {k:Nat} (hk:k<l.length):Wz l (k+1)=VL l k (l.getD k (0,[])).2.length:=by
 unfold Wz VL;rw[AW l (0,[]) hk,List.flatMap_append,iN];simp[VK,Wz]
theorem X8 {l:List (Int×List (Int×Int))} {k j:Nat} (a:j<(l.getD k (0,[])).2.length):VL l k (j+1)=VL l k j++[((l.getD k (0,[])).2.getD j (0,0)).1,((l.getD k (0,[])).2.getD j (0,0)).2]:=by
 unfold VL;rw[AW _ (0,0) a,List.flatMap_append];simp
def VN:Ae:={ ins:=[D8],pre:=λ(f,_)=>f.length<=100000/\∀n∈f,n.2.length<=100000,out:=λ(f,_)=>[.p Es (Bu f)] }
theorem kE:Af Tryz.prog 74 VN:=by
 refine fK [0,1,2,3,4,5,6,15,38] Tryz.func74 Tryz.ntmps74 AH ?_;rintro w0 O0 ⟨l,u⟩ a ⟨h,-⟩ ⟨n,d⟩;simp only[VN,AM];repeat'(first|exact trivial|refine eS rfl ?_|refine rX a ?_ ?_)
 refine AG (ι:={k:Nat//k<=l.length}) (λk=>⟨[(0,.p D8 l),(1,.bp 1 [] 0),(3,.sr 10 T3 0 (Wz l k.1).length),(4,.p (.int .i64) (k.1:Int))],[(1,.box 25 true [.p Dv l]),(10,.arr 3 T3 (Wz l k.1))]⟩) (λk=>l.length-k.1) ⟨0,by simp⟩ (AC [(1,.nm 1),(10,.nm 10)] rfl rfl ?_ ?_) (λk=>?_)
 ·refine eM ?_;rfl
 ·refine eM ?_;rfl
 ·obtain⟨k,hk⟩:=k;have i:=dT d hk;repeat'(first|exact trivial|refine eS rfl ?_|refine rX a ?_ ?_|refine rC ?_ ?_<;>intro c<;>try(cases c;done))
  ·exact eV
  ·refine⟨by exact eV,?_⟩;simp only[AO];exact eV
  ·have b:k<l.length:=by exact eV
   have o:=d _ (AD l (0,[]) b);refine AG (ι:={j:Nat//j<=(l.getD k (0,[])).2.length}) (λj=>⟨[(0,.p D8 l),(1,.bp 1 [] 0),(3,.sr 10 T3 0 (VL l k j.1).length),(4,.p (.int .i64) (k:Int)),(5,.p Ce (l.getD k (0,[])).2),(6,.p (.int .i64) (j.1:Int))],[(1,.box 25 true [.p Dv l]),(10,.arr 3 T3 (VL l k j.1))]⟩) (λj=>(l.getD k (0,[])).2.length-j.1) ⟨0,by simp⟩ (AC [(1,.nm 1),(10,.nm 10)] rfl rfl ?_ ?_) (λj=>?_)
   ·refine eM ?_;simp[VL]
   ·refine eM ?_;simp[VL]
   ·obtain⟨j,f⟩:=j;have m:=A19 d b f;repeat'(first|exact trivial|refine eS rfl ?_|refine AB ?_|refine rX a ?_ ?_|refine rC ?_ ?_<;>intro c<;>try(cases c;done))
    ·refine⟨by exact eV,by exact eV,?_⟩;simp only[AO];exact eV
    ·exact eV
    ·have e:j<(l.getD k (0,[])).2.length:=by exact eV
     refine⟨⟨j+1,by exact eV⟩,by simp only;exact eV,AC [(1,.nm 1),(10,.nm 10)] rfl rfl ?_ ?_⟩
     ·refine eM ?_;exact(X8 e).symm
     ·refine eM ?_;have:=ABr List.length (X8 (l:=l) e);rw[GO]at this;exact this.symm
    ·exact eV
    ·have g:j=(l.getD k (0,[])).2.length:=by exact eV
     subst g;refine⟨⟨k+1,by exact eV⟩,by simp only;exact eV,AC [(1,.nm 1),(10,.nm 10)] rfl rfl ?_ ?_⟩
     ·refine eM ?_;exact(X7 b).symm
     ·refine eM ?_;exact ABr List.length (X7 b).symm
  ·have hk:l.take k=l:=An (by exact eV);have h1:Wz l k=Bu l:=by unfold Wz Bu;rw[hk]
   exact fI a [.tmp 2] (by first|exact eR|refine cG ?_;exact h1)
section
attribute [local go_sem] VN
def LK:List Int->List Int->Int
 | x :: xs,y :: ys=>if x<y then -1 else if y<x then 1 else LK xs ys
 | _,_=>0
theorem RU (xs ys:List Int) {k:Nat} (h1:k<xs.length) (a:k<ys.length):LK (xs.drop k) (ys.drop k)=if xs.getD k 0<ys.getD k 0 then -1 else if ys.getD k 0<xs.getD k 0 then 1 else LK (xs.drop (k+1)) (ys.drop (k+1)):=by
 rw[Of h1,Of a,AS,AT h1,AS,AT a];rfl
theorem A1a (xs ys:List Int) {k:Nat} (h:xs.length<=k\/ys.length<=k):LK (xs.drop k) (ys.drop k)=0:=by
 rcases h with h|h
 ·rw[IF h];simp[LK]
 ·rw[IF h];simp[LK]
def Cv (a b:List (Int×List (Int×Int))):Int:=LK (Bu a) (Bu b)
def Cw (f:List (Int×List (Int×Int))):Prop:=f.length<=100000/\∀n∈f,n.2.length<=100000
def VO:Ae:={ ins:=[D8,D8],pre:=λ(a,b,_)=>Cw a/\Cw b,out:=λ(a,b,_)=>[.p T3 (Cv a b)] }
theorem QJ {f:List (Int×List (Int×Int))} (h:Cw f):(Bu f).length<=1+f.length*200002:=by
 have:=VM f h.2;simp only[Bu,OS];omega
theorem kF:Af Tryz.prog 47 VO:=by
 refine fK [0,1,2,3,4,5,6,7,21,32,41] Tryz.func47 Tryz.ntmps47 (AF kE AH) ?_;rintro w0 O0 ⟨a,b,u⟩ e-⟨⟨g,i⟩,⟨j,l⟩⟩;have m:=QJ ⟨g,i⟩;have n:=QJ ⟨j,l⟩;simp only[VO,AM];repeat'(first|exact trivial|refine eS rfl ?_|refine rX e ?_ ?_)
 ·exact⟨g,i⟩
 ·exact⟨j,l⟩
 ·refine AG (ι:={k:Nat//LK ((Bu a).drop k) ((Bu b).drop k)=Cv a b}) (λk=>⟨[(5,.p Es (Bu a)),(6,.p Es (Bu b)),(7,.p (.int .i64) (k.1:Int))],[]⟩) (λk=>(Bu a).length-k.1) ⟨0,by simp[Cv]⟩ (AC [] rfl rfl ?_ ?_) (λk=>?_)
  ·exact eN
  ·exact eN
  ·obtain⟨k,hk⟩:=k;repeat'(first|exact trivial|refine eS rfl ?_|refine AB ?_|refine rX e ?_ ?_|refine rC ?_ ?_<;>intro f<;>try(cases f;done))
   ·exact eV
   ·obtain⟨h1,c⟩:k<(Bu a).length/\k<(Bu b).length:=by exact eV
    have d:Cv a b=-1:=by rw[<-hk,RU _ _ h1 c,BY f]
    exact fI e [.tmp 4] (by rw[d];exact eR)
   ·exact eV
   ·obtain⟨h1,c⟩:k<(Bu a).length/\k<(Bu b).length:=by exact eV
    have d:Cv a b=1:=by rw[<-hk,RU _ _ h1 c,At (by exact eV),BY f]
    exact fI e [.tmp 4] (by rw[d];exact eR)
   ·exact eV
   ·obtain⟨h1,c⟩:k<(Bu a).length/\k<(Bu b).length:=by exact eV
    refine⟨⟨k+1,?_⟩,by simp only;exact eV,AC [] rfl rfl ?_ ?_⟩
    ·rw[<-hk,RU _ _ h1 c,At (by exact eV),At (by exact eV)]
    ·exact eN
    ·exact eN
   ·have d:Cv a b=0:=by
     rw[<-hk];apply A1a;by_cases h:k<(Bu a).length
     ·right;have:=f (by exact eV);exact eV
     ·left;exact eV
    exact fI e [.tmp 4] (by rw[d];exact eR)
def MX:Ae:={ ins:=[D8,D8],pre:=λ(a,b,_)=>Cw a/\Cw b,out:=λ(a,b,_)=>[.p .bool (Cv a b==0)] }
end
section
attribute [local go_sem] VO dS
theorem VP:Af Tryz.prog 20 MX:=by
 refine fK [0,1,2,3,4] Tryz.func20 Tryz.ntmps20 (AF kF AH) ?_;rintro w0 O0 ⟨a,b,u⟩ c-d;simp only[MX,AM];repeat'(first|exact trivial|refine eS rfl ?_|refine rX c ?_ ?_)
 ·exact d
 ·exact fI c [.tmp 4]
def HC (m:Int):List (Int×List (Int×Int))->Int
 | []=>0
 | n :: r=>if n.1<0 then 2 else if IZ n.2 m≠0 then IZ n.2 m else HC m r
def CG (f:List (Int×List (Int×Int))):Int:=if f.length=0 then 1 else if 4096<f.length then 7 else HC f.length f
def A1b:Ae:={ ins:=[D8],pre:=λ_=>True,out:=λ(f,_)=>[.p Wq (CG f)] }
theorem Ia (m:Int) (l:List (Int×List (Int×Int))) {k:Nat} (h:k<l.length):HC m (l.drop k)=if (l.getD k (0,[])).1<0 then 2 else if IZ (l.getD k (0,[])).2 m≠0 then IZ (l.getD k (0,[])).2 m else HC m (l.drop (k+1)):=by
 rw[Of h,AS,AT h];rfl
theorem A5b:Af Tryz.prog 108 A1b:=by
 refine fK [0,1,2,3,4,8,12,17,26,38] Tryz.func108 Tryz.ntmps108 (AF A5a AH) ?_;rintro w0 O0 ⟨l,u⟩ a ⟨f,-⟩ -;simp only[A1b,AM];repeat'(first|exact trivial|refine eS rfl ?_|refine rX a ?_ ?_|refine rC ?_ ?_<;>intro b<;>try(cases b;done))
 ·have h1:CG l=1:=by
   have h:l.length=0:=by exact eV
   unfold CG;rw[BY h]
  exact fI a [.tmp 2] (by rw[h1];exact eR)
 ·have h1:CG l=7:=by
   have h:¬l.length=0:=by exact eV
   have e:4096<l.length:=by exact eV
   unfold CG;rw[At h,BY e]
  exact fI a [.tmp 2] (by rw[h1];exact eR)
 ·have h1:CG l=HC l.length l:=by
   have h:¬l.length=0:=by exact eV
   have e:¬4096<l.length:=by exact eV
   unfold CG;rw[At h,At e]
  refine AG (ι:={k:Nat//k<=l.length/\HC l.length (l.drop k)=CG l}) (λk=>⟨[(1,.bp 1 [] 0),(3,.p (.int .i64) (k.1:Int))],[(1,.box 25 true [.p Dv l])]⟩) (λk=>l.length-k.1) ⟨0,by simp[h1]⟩ (AC [(1,.nm 1)] rfl rfl ?_ ?_) (λk=>?_)
  ·exact eN
  ·exact eN
  ·obtain⟨k,hk,hf⟩:=k;repeat'(first|exact trivial|refine eS rfl ?_|refine AB ?_|refine rX a ?_ ?_|refine rC ?_ ?_<;>intro b<;>try(cases b;done))
   ·exact eV
   ·have d:k<l.length:=by exact eV
    have c:CG l=2:=by rw[<-hf,Ia _ _ d,BY b]
    exact fI a [.tmp 2] (by rw[c];exact eR)
   ·exact eV
   ·have d:k<l.length:=by exact eV
    have c:CG l=IZ (l.getD k (0,[])).2 l.length:=by rw[<-hf,Ia _ _ d,At (by exact eV),BY b]
    exact fI a [.tmp 2] (by rw[c];exact eR)
   ·exact eV
   ·have d:k<l.length:=by exact eV
    refine⟨⟨k+1,by exact eV,?_⟩,by simp only;exact eV,AC [(1,.nm 1)] rfl rfl ?_ ?_⟩
    ·rw[<-hf,Ia _ _ d,At (by exact eV),At (by simpa using b)]
    ·exact eN
    ·exact eN
   ·have c:CG l=0:=by
     have hk:l.length<=k:=by exact eV
     rw[<-hf,IF hk];rfl
    exact fI a [.tmp 2] (by rw[c];exact eR)
end
def Ib (x:Int×Int) (s:List (Int×Int)):Nat->Nat
 | 0=>0
 | n+1=>if x.1<(s.getD n (0,0)).1 then Ib x s n else n+1
def Oe (s:List (Int×Int)) (x:Int×Int):List (Int×Int):=s.take (Ib x s s.length)++[x]++s.drop (Ib x s s.length)
def AU (l:List (Int×Int)):List (Int×Int):=l.foldl Oe []
theorem TV (x:Int×Int) (s:List (Int×Int)):∀n,Ib x s n<=n
 | 0=>NO _
 | n+1=>by
  unfold Ib;have:=TV x s n;split<;>omega
theorem A1c (s:List (Int×Int)) (x:Int×Int):(Oe s x).length=s.length+1:=by
 have:=TV x s s.length;simp[Oe];omega
theorem Hh (l:List (Int×Int)) (x:Int×Int):AU (l++[x])=Oe (AU l) x:=by simp[AU]
theorem MY:∀(l s:List (Int×Int)),(l.foldl Oe s).length=s.length+l.length
 | [],s=>by simp
 | x :: l,s=>by simp[MY l,A1c];omega
theorem Cp (l:List (Int×Int)):(AU l).length=l.length:=by simp[AU,MY]
def QK:Ae:={ ins:=[Ce],pre:=λ(l,_)=>l.length<=1000000,out:=λ(l,_)=>[.own 53 BE (AU l)] }
theorem X9:Af Tryz.prog 79 QK:=by
 refine fK [0,2,3,4,5,6,10,30] Tryz.func79 Tryz.ntmps79 AH ?_;rintro w0 O0 ⟨l,u⟩ c s j;simp only[QK]at j;simp only[QK,AM];repeat'(first|exact trivial|refine eS rfl ?_|refine rX c ?_ ?_)
 refine AG (ι:={p:Nat//p<=l.length}) (λk=>⟨[(0,.p Ce l),(3,.sr 10 BE 0 (AU (l.take k.1)).length),(4,.p (.int .i64) (k.1:Int))],[(10,.arr 53 BE (AU (l.take k.1)))]⟩) (λk=>l.length-k.1) ⟨0,by omega⟩ (AC [(10,.nil)] rfl rfl ?_ ?_) (λk=>?_)
 ·refine eM ?_;rfl
 ·refine eM ?_;rfl
 ·obtain⟨k,g⟩:=k;have o:(AU (l.take k)).length=k:=by rw[Cp,ON];exact ABk g
  repeat'(first|exact trivial|refine eS rfl ?_|refine rX c ?_ ?_|refine rC ?_ ?_<;>intro b<;>try(cases b;done))
  ·refine AG (ι:={q:Nat//q<=(AU (l.take k)).length/\Ib (l.getD k (0,0)) (AU (l.take k)) q=Ib (l.getD k (0,0)) (AU (l.take k)) (AU (l.take k)).length}) (λq=>⟨[(0,.p Ce l),(3,.sr 10 BE 0 (AU (l.take k)).length),(4,.p (.int .i64) (k:Int)),(5,.p (.int .i64) (q.1:Int))],[(10,.arr 53 BE (AU (l.take k)))]⟩) (λq=>q.1) ⟨(AU (l.take k)).length,by simp⟩ (eW [(10,.nm 10)]) (λq=>?_)
   ·obtain⟨q,m,hp⟩:=q;have h:k<l.length:=by omega
    have n:=l.length_take_le k;have d:(List.take q (AU (List.take k l))).length=q:=by rw[ON];exact ABk m
    repeat'(first|exact trivial|refine eS rfl ?_|refine AB ?_|refine rX c ?_ ?_|refine rC ?_ ?_<;>intro b<;>try(cases b;done))
    ·exact eV
    ·exact eV
    ·obtain⟨h1,a⟩:=b;obtain⟨q,rfl⟩:∃r,q=r+1:=⟨q-1,by omega⟩;have e:((q+1:Nat):Int)-1=(q:Int):=by omega
     refine⟨⟨q,by omega,?_⟩,ADc q,AC [(10,.nm 10)] rfl rfl ?_ ?_⟩
     ·rw[<-hp];simp only[Ib];rw[e,gO]at a;rw[BY a]
     ·exact eN
     ·refine eM ?_;show (q:Int)+1-1=q;omega
    ·refine⟨by exact eV,?_⟩;rw[d];unfold AO;omega
    ·refine⟨by exact eV,?_⟩;rw[d];simp only[AO];omega
    ·refine⟨by exact eV,?_⟩;rw[d];simp only[AO,AAQ];omega
    ·exact eV
    ·have i:Ib (l.getD k (0,0)) (AU (l.take k)) q=q:=by
      cases q with
      | zero=>rfl
      | succ q =>
       have e:((q+1:Nat):Int)-1=(q:Int):=by omega
       have:=b (by omega);rw[e,gO]at this;simp only[Ib];rw[At (by omega)]
     have h1:=AW l (0,0) h;have a:AU (l.take (k+1))=_:=(ABr AU h1).trans (Hh _ _);unfold Oe at a;rw[<-hp,i]at a;refine⟨⟨k+1,by exact eV⟩,by simp only;exact eV,AC [(10,.nm 37)] rfl rfl ?_ ?_⟩
     ·refine eM ?_;exact a.symm
     ·refine eM ?_;have f:=ABr List.length a;rw[GO,GO]at f;exact f.symm
  ·have hk:l.take k=l:=An (by exact eV);refine GY c (.inl rfl) (rv:=.tmp 2) rfl ?_;simp only[H0,Hf,GL,go_sem,Nat.reduceEqDiff,reduceCtorEq,Nat.reduceAdd,Nat.reduceSub,Nat.reduceMul,Nat.reduceLeDiff,Nat.reduceLT,Int.reduceLE,Int.reduceToNat,Int.reduceNeg,↓reduceIte];rw[hk];first|rfl|exact⟨rfl,rfl⟩|exact⟨rfl,rfl,rfl⟩
section
attribute [local go_sem] QK
abbrev AE:=Int×List (Int×Int)
def Dg (f:List AE):Nat->List Int×List Int->Int->List Int×List Int
 | 0,s,_=>s
 | k+1,s,n=>(AU (f.getD n.toNat (0,[])).2).foldl (λs a=>if s.1.getD a.2.toNat 0<0 then Dg f k s a.2 else s) (s.1.set n.toNat (s.2.length:Int),s.2++[n])
def Lt (l:List Int):Nat:=l.countP (λx=>decide (x<0))
def Ad (f:List AE):Prop:=f.length<=100000/\∀x∈f,x.2.length<=100000/\∀a∈x.2,0<=a.2/\a.2<(f.length:Int)
def S7 (f:List AE) (s:List Int×List Int):Prop:=s.1.length=f.length/\s.2.length+Lt s.1<=f.length
theorem A1d {l:List Int} {n:Nat} {v:Int} (hn:n<l.length) (a:l.getD n 0<0) (d:0<=v):Lt (l.set n v)+1=Lt l:=by
 induction l generalizing n with
 | nil=>simp at hn
 | cons x r c =>
  cases n with
  | zero =>
   have b:x<0:=by simpa using a
   have:¬v<0:=by omega
   simp[Lt,ABI,b,this]
  | succ n =>
   have h1:=c (n:=n) (by simpa using hn) (by simpa using a);simp only[Lt,ACt,ABI]at h1 ⊢;omega
theorem kG {f:List AE} {s:List Int×List Int} {n:Int} (h:S7 f s) (d:0<=n) (hn:n<f.length) (b:s.1.getD n.toNat 0<0) :
  S7 f (s.1.set n.toNat (s.2.length:Int),s.2++[n])/\Lt (s.1.set n.toNat (s.2.length:Int))+1=Lt s.1:=by
 obtain⟨h1,c⟩:=h;have a:=A1d (l:=s.1) (n:=n.toNat) (v:=(s.2.length:Int)) (by omega) b (by omega);refine⟨⟨by simpa using h1,?_⟩,a⟩;simp only[GO,aS];omega
theorem wH (s:List (Int×Int)) (x:Int×Int):(Oe s x).Perm (x :: s):=by
 unfold Oe;refine(List.perm_append_comm.append_right _).trans ?_;simp
theorem Li:∀(l s:List (Int×Int)),(l.foldl Oe s).Perm (l++s)
 | [],s=>List.Perm.refl _
 | x :: l,s=>by
  refine(Li l (Oe s x)).trans ?_;refine(List.Perm.append_left l (wH s x)).trans ?_;exact ADe
theorem B6 (l:List (Int×Int)):(AU l).Perm l:=by
 have:=Li l [];simpa[AU] using this
theorem MZ {f:List AE} (hf:Ad f) (n:Int):List.length (f.getD n.toNat (0,[])).2<=100000:=by
 by_cases h:n.toNat<f.length
 ·have a:f.getD n.toNat (0,[])∈f:=by
   rw[AS,AT h];exact AAR h
  exact(hf.2 _ a).1
 ·rw[AS,iF (by omega)];simp
theorem TW {f:List AE} (hf:Ad f) {n:Int} {a:Int×Int} (ha:a∈AU (f.getD n.toNat (0,[])).2):0<=a.2/\a.2<f.length:=by
 have ha:=(B6 _).mem_iff.1 ha;by_cases h:n.toNat<f.length
 ·have b:f.getD n.toNat (0,[])∈f:=by
   rw[AS,AT h];exact AAR h
  exact(hf.2 _ b).2 a ha
 ·rw[AS,iF (by omega)]at ha;simp at ha
def EO (f:List AE) (k:Nat) (s:List Int×List Int) (a:Int×Int):List Int×List Int:=if s.1.getD a.2.toNat 0<0 then Dg f k s a.2 else s
theorem Dw (f:List AE) (k:Nat) (s:List Int×List Int) (n:Int):Dg f (k+1) s n=(AU (f.getD n.toNat (0,[])).2).foldl (EO f k) (s.1.set n.toNat (s.2.length:Int),s.2++[n]):=rfl
theorem TX {f:List AE} {k:Nat} (i:∀(s:List Int×List Int) (n:Int),S7 f s->0<=n->n<f.length->s.1.getD n.toNat 0<0->S7 f (Dg f k s n)/\Lt (Dg f k s n).1<=Lt s.1) :
  ∀(l:List (Int×Int)) (t:List Int×List Int),(∀a∈l,0<=a.2/\a.2<(f.length:Int))->S7 f t->S7 f (l.foldl (EO f k) t)/\Lt (l.foldl (EO f k) t).1<=Lt t.1
 | [],t,_,d=>⟨d,NO _⟩
 | a :: l,t,c,d=>by
  simp only[TO];by_cases h:t.1.getD a.2.toNat 0<0
  ·obtain⟨j,m⟩:=i t a.2 d (c a (by simp)).1 (c a (by simp)).2 h;have e:EO f k t a=Dg f k t a.2:=BY h;rw[e];obtain⟨o,p⟩:=TX i l _ (λb g=>c b (by simp[g])) j;exact⟨o,Qo p m⟩
  ·have e:EO f k t a=t:=At h;rw[e];exact TX i l t (λb g=>c b (by simp[g])) d
theorem RW {f:List AE} (hf:Ad f):∀(k:Nat) (s:List Int×List Int) (n:Int),S7 f s->0<=n->n<f.length->s.1.getD n.toNat 0<0->S7 f (Dg f k s n)/\Lt (Dg f k s n).1<=Lt s.1
 | 0,s,n,h,_,_,_=>⟨h,NO _⟩
 | k+1,s,n,h,h0,h1,d=>by
  obtain⟨e,g⟩:=kG h h0 h1 d;obtain⟨b,c⟩:=TX (RW hf k) _ _ (λa ha=>TW hf ha) e;rw[Dw];exact⟨b,by simp only at c g;omega⟩
theorem NF {α β:Type} (g:β->α->β) (l:List α) (d:α) (t:β) {i:Nat} (hi:i<l.length):(l.take (i+1)).foldl g t=g ((l.take i).foldl g t) (l.getD i d):=by
 rw[AW l d hi,ABU];rfl
def Lj (f:List AE) (s:List Int×List Int):List (Nat×Obj):=[(1,.box 123 true [.p D8 f,.sr 2 T3 0 s.1.length,.sr 3 T3 0 s.2.length]),(2,.arr 3 T3 s.1),(3,.arr 3 T3 s.2)]
theorem A1e (f:List AE) (hf:Ad f):∀(k:Nat) (s:List Int×List Int) (n:Int),S7 f s->0<=n->n<f.length->s.1.getD n.toNat 0<0->Lt s.1<=k ->
  BA Tryz.prog 78 [.bp 1 [] 0,.p T3 n] (Lj f s) [1] (λres M=>res=.raw (.tuple #[])/\M=Lj f (Dg f k s n)):=by
 intro k;induction k with
 | zero =>
  intro s n h0 h1 u B N;obtain⟨_,O⟩:=kG h0 h1 u B;omega
 | succ k J =>
  intro s n A w m x hk;obtain⟨num,g⟩:=s;obtain⟨t,v⟩:=kG A w m x;obtain⟨G,H⟩:=A;simp only at G H x t v hk;refine Jh [0,1,4,5,40,54] [] [] Tryz.func78 Tryz.ntmps78 (AF X9 AH) ?_;intro w0 K O0 ρ0 c Q R;simp only[Lj,Aj];repeat'(first|exact trivial|refine eS rfl ?_|refine rX c ?_ ?_)
  ·exact eV
  ·have:=hf.1;simp only[AO];omega
  ·have I:=MZ hf n;exact⟨⟨w,m⟩,Qo I (by omega)⟩
  ·have l:=λa (ha:a∈AU (f.getD n.toNat (0,[])).2)=>TW hf ha;have D:(AU (f.getD n.toNat (0,[])).2).length<=100000:=by rw[Cp];exact MZ hf n
   generalize C:AU (f.getD n.toNat (0,[])).2=L at l D;generalize o:(num.set n.toNat (g.length:Int),g++[n])=s1 at t;have F:∀i,S7 f ((L.take i).foldl (EO f k) s1)/\Lt ((L.take i).foldl (EO f k) s1).1<=Lt s1.1:=λi=>TX (RW hf k) _ _ (λa ha=>l a (AAT ha)) t;have m:num.set n.toNat (g.length:Int)=s1.1:=by rw[<-o]
   have P:g++[n]=s1.2:=by rw[<-o]
   rw[m]at v;refine AG (ι:={i:Nat//i<=L.length}) (λi=>⟨[(0,.bp 1 [] 0),(1,.p T3 n),(4,.p Ce L),(5,.p (.int .i64) (i.1:Int))],Lj f ((L.take i.1).foldl (EO f k) s1)⟩) (λi=>L.length-i.1) ⟨0,by omega⟩ (A8c [36] (AC [(1,.nm 1),(2,.nm 2),(3,.nm 3)] rfl rfl ?_ ?_)) (λi=>?_)
   ·simp only[Lj];refine eM ?_;simp only[AD4];rw[<-o];simp
   ·exact eN
   ·obtain⟨i,hi⟩:=i;obtain⟨r,E⟩:=F i;have q:=λ(h:i<L.length)=>NF (EO f k) L (0,0) s1 h;generalize z:(L.take i).foldl (EO f k) s1=b at r E q;simp only[Lj];repeat'(first|exact trivial|refine eS rfl ?_|refine AB ?_|refine rX c ?_ ?_|refine rC ?_ ?_<;>intro j<;>try(cases j;done))
    ·have d:i<L.length:=by exact eV
     have:=l _ (AD L (0,0) d);obtain⟨h1,u⟩:=r;refine⟨by exact eV,this.1,?_⟩;rw[h1];exact this.2
    ·have d:i<L.length:=by exact eV
     have y:=l _ (AD L (0,0) d);refine cP 6 c ?_ ?_
     ·exact eV
     ·refine rM c (J b (L.getD i (0,0)).2 r y.1 y.2 (by simpa using j) (by omega)) [(1,.nm 1),(2,.nm 2),(3,.nm 3)] [2,3] ?_ ?_ ?_
      ·exact eN
      ·simp only[Lj];exact eN
      ·rintro _ _ ⟨rfl,rfl⟩;refine⟨[(1,.nm 1),(2,.nm 2),(3,.nm 3)],.raw (.tuple #[]),Lj f (Dg f k b (L.getD i (0,0)).2),rfl,rfl,?_,?_,rfl,rfl,CQ ?_⟩
       ·simp only[Lj];exact eN
       ·exact eN
       ·repeat'(first|refine eS rfl ?_|refine AB ?_|refine rX c ?_ ?_)
        ·exact eV
        ·have e:EO f k b (L.getD i (0,0))=Dg f k b (L.getD i (0,0)).2:=BY (by simpa using j);refine⟨⟨i+1,by omega⟩,by simp only;omega,AC [(1,.nm 1),(2,.nm 2),(3,.nm 3)] rfl rfl ?_ ?_⟩
         ·simp only[Lj,q d,e];exact eN
         ·exact eN
    ·exact eV
    ·have d:i<L.length:=by exact eV
     have e:EO f k b (L.getD i (0,0))=b:=At (by simpa using j);refine⟨⟨i+1,by omega⟩,by simp only;omega,AC [(1,.nm 1),(2,.nm 2),(3,.nm 3)] rfl rfl ?_ ?_⟩
     ·simp only[q d,e];exact eN
     ·exact eN
    ·have hk:L.take i=L:=An (by exact eV);rw[hk]at z;have h1:Dg f (k+1) (num,g) n=b:=by rw[Dw,C,<-z,<-o]
     rw[h1];exact fM c [] (.raw (.tuple #[])) rfl ⟨rfl,rfl⟩
end
section
attribute [local go_sem] QK
def dU (f:List AE) (s:List Int×List Int):Prop:=∀n∈s.2,0<=n/\n<(f.length:Int)
theorem VQ {f:List AE} (hf:Ad f):∀(k:Nat) (s:List Int×List Int) (n:Int),dU f s->0<=n->n<f.length->dU f (Dg f k s n)
 | 0,s,n,h,_,_=>h
 | k+1,s,n,h,h0,h1=>by
  rw[Dw];have key:∀(l:List (Int×Int)) (t:List Int×List Int),(∀a∈l,0<=a.2/\a.2<(f.length:Int))->dU f t->dU f (l.foldl (EO f k) t):=by
   intro l;induction l with
   | nil=>intro t _ d;exact d
   | cons a l i =>
    intro t e d;simp only[TO];refine i _ (λb g=>e b (by simp[g])) ?_;unfold EO;split
    ·exact VQ hf k t a.2 d (e a (by simp)).1 (e a (by simp)).2
    ·exact d
  refine key _ _ (λa ha=>TW hf ha) ?_;intro m c;simp only[OF,ABe]at c;rcases c with c|rfl
  ·exact h m c
  ·exact⟨h0,h1⟩
def F9 (f:List AE) (root:Int):List Int×List Int:=Dg f f.length (List.replicate f.length (-1),[]) root
def W8 (num:List Int) (a:Int×Int):Int×Int:=(a.1,num.getD a.2.toNat 0)
def Lk (f:List AE) (num:List Int) (n:Int):AE:=((f.getD n.toNat (0,[])).1,(AU (f.getD n.toNat (0,[])).2).map (W8 num))
def Fl (f:List AE) (root:Int):List AE:=(F9 f root).2.map (Lk f (F9 f root).1)
theorem dV (m:Nat):Lt (List.replicate m (-1))=m:=by
 induction m with
 | zero=>rfl
 | succ m a=>simp only[Lt,ACp,ABI]at a ⊢;simp[a]
theorem tr0 (f:List AE):S7 f (List.replicate f.length (-1),[]):=⟨by simp,by simp[dV]⟩
theorem sJ {f:List AE} {n:Int} (h0:0<=n) (h1:n<f.length):(List.replicate f.length (-1:Int)).getD n.toNat 0<0:=by
 have:n.toNat<f.length:=by omega
 simp[AS,ABp,this]
theorem sK {f:List AE} (hf:Ad f) {n:Int} (h0:0<=n) (h1:n<f.length):S7 f (F9 f n)/\dU f (F9 f n) :=
 ⟨(RW hf _ _ n (tr0 f) h0 h1 (sJ h0 h1)).1,VQ hf _ _ n (λm a=>by simp at a) h0 h1⟩
theorem VR {α b:Type} (g:α->b) (h:b->α) (L:List α) (d:α) {k:Nat} (hk:k<L.length) (u:α->α):((L.take k).map u++L.drop k).set k (u (L.getD k d))=(L.take (k+1)).map u++L.drop (k+1)/\((L.take k).map u++L.drop k).getD k d=L.getD k d:=by
 have h1:((L.take k).map u).length=k:=by simp;omega
 have a:L.drop k=L.getD k d :: L.drop (k+1):=by
  rw[Of hk,AS,AT hk];rfl
 constructor
 ·rw[AW L d hk,ABg _ _ (by omega),h1,AB7,a];simp
 ·rw[AS,AAl (by omega),h1,AB7,a];rfl
def sL:Ae:={ ins:=[D8,T3],pre:=λ(f,n,_)=>Ad f/\0<=n/\n<(List.length f:Int),out:=λ(f,n,_)=>[.p D8 (Fl f n)] }
theorem sM:Af Tryz.prog 54 sL:=by
 refine fK [0,1,2,4,5,6,7,8,9,10,11,19,40,60] Tryz.func54 Tryz.ntmps54 (AF X9 AH) ?_;rintro w0 O0 ⟨f,root,u⟩ d-⟨hf,l,m⟩;simp only[sL,AM];have G:=hf.1;repeat'(first|exact trivial|refine eS rfl ?_|refine rX d ?_ ?_)
 refine AG (ι:={i:Nat//i<=f.length}) (λi=>⟨[(1,.p T3 root),(2,.bp 2 [] 0),(4,.bp 4 [] 0),(5,.bp 14 [] 0),(6,.p (.int .i64) (i.1:Int))],[(2,.box 25 true [.p Dv f]),(4,.box 25 true [.raw (.slice none 0 0)]),(14,.box 123 true [.p D8 f,.sr 10 T3 0 i.1,.raw (.slice none 0 0)]),(10,.arr 3 T3 (List.replicate i.1 (-1)))]⟩) (λi=>f.length-i.1) ⟨0,by omega⟩ (AC [(2,.nm 2),(4,.nm 4),(14,.nm 14),(10,.nil)] rfl rfl ?_ ?_) (λi=>?_)
 ·refine eM ?_;rfl
 ·exact eN
 ·obtain⟨i,hi⟩:=i;repeat'(first|exact trivial|refine eS rfl ?_|refine AB ?_|refine rX d ?_ ?_|refine rC ?_ ?_<;>intro h<;>try(cases h;done))
  ·simp only[AO];omega
  ·exact eV
  ·have hi:i<List.length f:=by exact eV
   refine⟨⟨i+1,by omega⟩,by simp only;omega,AC [(2,.nm 2),(4,.nm 4),(14,.nm 14),(10,.nm 10)] rfl rfl ?_ ?_⟩
   ·refine eM ?_;rw[List.replicate_succ'];simp
   ·exact eN
  ·have A:i=List.length f:=by exact eV
   subst A;have w:=sK hf l m;refine cP 2 d ?_ ?_
   ·trivial
   ·refine rM d (A1e f hf (List.length f) (List.replicate (List.length f) (-1),[]) root (tr0 f) l m (sJ l m) (by rw[dV];exact NO _)) [(1,.nm 14),(2,.nm 10),(3,.nil)] [10] ?_ ?_ ?_
    ·exact eN
    ·simp only[Lj];refine eM ?_;simp
    ·rintro _ _ ⟨rfl,rfl⟩;refine⟨[(14,.nm 1),(101,.nm 2),(102,.nm 3)],.raw (.tuple #[]),[(14,.box 123 true [.p D8 f,.sr 101 T3 0 (F9 f root).1.length,.sr 102 T3 0 (F9 f root).2.length]),(101,.arr 3 T3 (F9 f root).1),(102,.arr 3 T3 (F9 f root).2)],rfl,rfl,?_,?_,rfl,rfl,CQ ?_⟩
     ·simp only[Lj,F9];exact eN
     ·exact eN
     ·have z:Fl f root=(F9 f root).2.map (Lk f (F9 f root).1):=rfl;rw[z];generalize F9 f root=s at w;obtain⟨num,c⟩:=s;obtain⟨⟨r,t⟩,j⟩:=w;simp only at r t;have j:∀n∈c,0<=n/\n<(List.length f:Int):=j;repeat'(first|exact trivial|refine eS rfl ?_|refine rX d ?_ ?_)
      refine AG (ι:={i:Nat//i<=c.length}) (λi=>⟨[(2,.bp 2 [] 0),(4,.bp 4 [] 0),(5,.bp 14 [] 0),(7,.bp 7 [] 0),(8,.p (.int .i64) (i.1:Int))],[(2,.box 25 true [.p Dv f]),(4,.box 25 true [.raw (.slice none 0 0)]),(14,.box 123 true [.p D8 f,.sr 101 T3 0 num.length,.sr 102 T3 0 c.length]),(101,.arr 3 T3 num),(102,.arr 3 T3 c),(7,.box 25 true [.sr 200 GH 0 i.1]),(200,.arr 49 GH ((c.take i.1).map (Lk f num)))]⟩) (λi=>c.length-i.1) ⟨0,by omega⟩ (eW [(2,.nm 2),(4,.nm 4),(14,.nm 14),(101,.nm 101),(102,.nm 102),(7,.nm 7),(200,.nil)]) (λi=>?_)
      ·obtain⟨i,hi⟩:=i;repeat'(first|exact trivial|refine eS rfl ?_|refine rX d ?_ ?_|refine rC ?_ ?_<;>intro h<;>try(cases h;done))
       ·have hi:i<c.length:=by exact eV
        exact⟨by exact eV,j _ (AD c 0 hi)⟩
       ·exact Qo (MZ hf _) (by omega)
       ·have hi:i<c.length:=by exact eV
        have q:=λa (ha:a∈AU (f.getD (Int.toNat (c.getD i 0)) (0,[])).2)=>TW hf ha;have v:Lk f num (c.getD i 0)=((f.getD (Int.toNat (c.getD i 0)) (0,[])).1,(AU (f.getD (Int.toNat (c.getD i 0)) (0,[])).2).map (W8 num)):=rfl;have B:=MZ hf (c.getD i 0);generalize List.getD f (Int.toNat (c.getD i 0)) (0,[])=x at *;obtain⟨E,o⟩:=x;simp only at q v B;have F:=Cp o;generalize AU o=L at *;refine AG (ι:={k:Nat//k<=L.length}) (λk=>⟨[(2,.bp 2 [] 0),(4,.bp 4 [] 0),(5,.bp 14 [] 0),(7,.bp 7 [] 0),(8,.p (.int .i64) (i:Int)),(9,.bp 9 [] 0),(10,.sr 56 BE 0 L.length),(11,.p (.int .i64) (k.1:Int))],[(56,.arr 53 BE ((L.take k.1).map (W8 num)++L.drop k.1)),(9,.box 49 true [.p T3 E,.p Ce o]),(2,.box 25 true [.p Dv f]),(4,.box 25 true [.raw (.slice none 0 0)]),(14,.box 123 true [.p D8 f,.sr 101 T3 0 num.length,.sr 102 T3 0 c.length]),(101,.arr 3 T3 num),(102,.arr 3 T3 c),(7,.box 25 true [.sr 200 GH 0 i]),(200,.arr 49 GH ((c.take i).map (Lk f num)))]⟩) (λk=>L.length-k.1) ⟨0,by omega⟩ (eW [(2,.nm 2),(4,.nm 4),(14,.nm 14),(101,.nm 101),(102,.nm 102),(7,.nm 7),(200,.nm 200),(9,.nm 9),(56,.nm 56)]) (λk=>?_)
        ·obtain⟨k,hk⟩:=k;repeat'(first|exact trivial|refine eS rfl ?_|refine AB ?_|refine rX d ?_ ?_|refine rC ?_ ?_<;>intro h<;>try(cases h;done))
         ·have g:k<L.length:=by exact eV
          have e:=(VR (W8 num) (λb=>b) L (0,0) g (W8 num)).2;rw[e];have:=q _ (AD L (0,0) g);rw[r];exact⟨by exact eV,this,by exact eV⟩
         ·exact eV
         ·have g:k<L.length:=by exact eV
          have e:=VR (W8 num) (λb=>b) L (0,0) g (W8 num);refine⟨⟨k+1,by omega⟩,by simp only;omega,AC [(2,.nm 2),(4,.nm 4),(14,.nm 14),(101,.nm 101),(102,.nm 102),(7,.nm 7),(200,.nm 200),(9,.nm 9),(56,.nm 56)] rfl rfl ?_ ?_⟩
          ·refine eM ?_;rw[e.2];exact e.1
          ·exact eN
         ·simp only[AO];have:=t;omega
         ·exact eV
         ·have g:L.take k=L:=An (by exact eV);have y:L.drop k=[]:=IF (by exact eV);refine⟨⟨i+1,by omega⟩,by simp only;omega,AC [(2,.nm 2),(4,.nm 4),(14,.nm 14),(101,.nm 101),(102,.nm 102),(7,.nm 7),(200,.nm 200)] rfl rfl ?_ ?_⟩
          ·refine eM ?_;rw[g,y,AAu,AW c 0 hi,AAs,AAn,ACq,v];have C:List.take i ((c.take i).map (Lk f num))=(c.take i).map (Lk f num):=An (by rw[On,ON];omega);have D:List.take L.length (L.map (W8 num))=L.map (W8 num):=An (by rw[On];omega);rw[C,D]
          ·exact eN
       ·have hk:c.take i=c:=An (by exact eV);rw[hk];refine fI d [.cell 4 25] (by first|exact eR|refine cG ?_;exact An (by rw[On];exact eV))
end
section
attribute [local go_sem] A1b sL
theorem VS {n:Int}:∀ {l seen:List (Int×Int)},HB n seen l=0->∀a∈l,0<=a.1/\0<=a.2/\a.2<n
 | [],_,_,a,ha=>by cases ha
 | x :: l,seen,h,a,ha=>by
  simp only[HB]at h;split at h
  ·cases h
  ·split at h
   ·cases h
   ·rename_i h1 _;rcases By.1 ha with rfl|ha
    ·omega
    ·exact VS h a ha
theorem Ic {m:Int}:∀ {f:List (Int×List (Int×Int))},HC m f=0->∀x∈f,0<=x.1/\∀a∈x.2,0<=a.1/\0<=a.2/\a.2<m
 | [],_,x,c=>by cases c
 | y :: f,h,x,c=>by
  simp only[HC]at h;split at h
  ·cases h
  ·split at h
   ·rename_i h1 b;exact absurd h b
   ·rename_i h1 b;have b:IZ y.2 m=0:=DO b;rcases By.1 c with rfl|c
    ·exact⟨by omega,VS b⟩
    ·exact Ic h x c
def VT (f:List (Int×List (Int×Int))):Prop:=∀x∈f,x.2.length<=100000
theorem Id {f:List (Int×List (Int×Int))} (h:CG f=0) (hs:VT f):Ad f/\0<f.length:=by
 unfold CG at h;split at h
 ·cases h
 ·split at h
  ·cases h
  ·refine⟨⟨by omega,λx b=>⟨hs x b,λa ha=>?_⟩⟩,by omega⟩;have:=(Ic h x b).2 a ha;exact⟨this.2.1,this.2.2⟩
def A5 (f:List AE):List AE×Int:=if CG f=0 then (Fl f 0,0) else ([],CG f)
def Zm:Ae:={ ins:=[D8],pre:=λ(f,_)=>VT f,out:=λ(f,_)=>[.p D8 (A5 f).1,.p Wq (A5 f).2] }
theorem A1f:Af Tryz.prog 70 Zm:=by
 refine fK [0,1,2,3,4,8] Tryz.func70 Tryz.ntmps70 (AF A5b (AF sM AH)) ?_;rintro w0 O0 ⟨f,u⟩ b-hs;simp only[Zm,AM];repeat'(first|exact trivial|refine eS rfl ?_|refine rX b ?_ ?_|refine rC ?_ ?_<;>intro a<;>try(cases a;done))
 ·have h:¬CG f=0:=by simpa using a
  have e:A5 f=([],CG f):=At h;exact fI b [.cell 2 25,.tmp 3] (by rw[e];exact eR)
 ·have h:CG f=0:=by simpa using a
  have:=Id h hs;exact⟨this.1,by exact eV⟩
 ·have h:CG f=0:=by simpa using a
  have e:A5 f=(Fl f 0,0):=BY h;exact fI b [.cell 2 25,.tmp 3] (by rw[e];exact eR)
end
def sN:Ae:={ ins:=[T3],pre:=λ_=>True,out:=λ(t,_)=>[.p D8 [(t,[])]] }
theorem A5c:Af Tryz.prog 35 sN:=by
 refine fK [0,2] Tryz.func35 Tryz.ntmps35 AH ?_;rintro w0 O0 ⟨t,u⟩ a - -;simp only[sN,AM];repeat'(first|exact trivial|refine eS rfl ?_|refine AB ?_|refine rX a ?_ ?_|refine rC ?_ ?_<;>intro b<;>try(cases b;done))
 exact fI a [.cell 2 25]
section
attribute [local go_sem] VJ Zm MX
def ftB (a:Int×Int):Bool:=decide (a.1<64)
def ndB (x:AE):Bool:=decide (x.1<256)&&x.2.all ftB
def EB (f:List AE):Bool:=HN f&&f.all ndB&&((A5 f).2==0&&(Cv (A5 f).1 f==0))
theorem Ma {f:List AE} (h:HN f=true):f.length<=12/\∀x∈f,x.2.length<=12:=by
 unfold HN at h;simp only[As,IS,IN]at h;exact h
theorem kH {f:List AE} (hf:Ad f) {n:Int} (h0:0<=n) (h1:n<f.length):Cw (Fl f n):=by
 obtain⟨⟨b,c⟩,_⟩:=sK hf h0 h1;have d:=hf.1;refine⟨?_,λx a=>?_⟩
 ·unfold Fl;rw[On];omega
 ·obtain⟨m,_,rfl⟩:=Do.1 a;unfold Lk;simp only[On,Cp];exact MZ hf m
theorem Se {f:List AE} (hs:VT f):Cw (A5 f).1:=by
 unfold A5;split
 ·rename_i h;obtain⟨h1,b⟩:=Id h hs;exact kH h1 (by omega) (by omega)
 ·exact⟨by simp,λx a=>by cases a⟩
end
section
attribute [local go_sem] Zm MX
def sO (h:AJ) (a:Int×Int):Bool:=decide (a.1<(h.2.length:Int))
def TY (h:AJ) (x:AE):Bool:=decide (x.1<(h.1.length:Int))&&x.2.all (sO h)
def Co (h:AJ) (f:List AE):Int:=if (A5 f).2≠0 then (A5 f).2 else if f.all (TY h)=false then 2 else if (Cv f (A5 f).1==0)=false then 3 else 0
def QL:Ae:={ ins:=[F7,D8],pre:=λ(_,f,_)=>Cw f,out:=λ(h,f,_)=>[.p Wq (Co h f)] }
theorem wI:Af Tryz.prog 40 QL:=by
 refine fK [0,1,2,3,4,5,6,7,8,9,16,22,35,40,52,56] Tryz.func40 Tryz.ntmps40 (AF A1f (AF VP AH)) ?_;rintro w0 O0 ⟨⟨b,hf⟩,f,u⟩ d-hs;have hs:Cw f:=hs;simp only[QL,AM];repeat'(first|exact trivial|refine eS rfl ?_|refine rX d ?_ ?_|refine rC ?_ ?_<;>intro a<;>try(cases a;done))
 ·exact hs.2
 ·have h1:Co (b,hf) f=(A5 f).2:=by unfold Co;rw[BY a]
  exact fI d [.tmp 4] (by rw[h1];exact eR)
 ·have t:(A5 f).2=0:=by simpa using a
  have q:=Se hs.2;have w:=hs.1;have g:Co (b,hf) f=if f.all (TY (b,hf))=false then 2 else if (Cv f (A5 f).1==0)=false then 3 else 0:=by unfold Co;rw[At (by rw[t];simp)]
  refine AG (ι:={i:Nat//i<=f.length/\(f.take i).all (TY (b,hf))=true}) (λi=>⟨[(2,.bp 2 [] 0),(3,.bp 3 [] 0),(5,.bp 5 [] 0),(7,.p (.int .i64) (i.1:Int))],[(2,.box 31 true [.p ST b,.p TQ hf]),(3,.box 25 true [.p Dv f]),(5,.box 25 true [.p Dv (A5 f).1])]⟩) (λi=>f.length-i.1) ⟨0,by simp⟩ (eW [(2,.nm 2),(3,.nm 3),(5,.nm 5)]) (λi=>?_)
  ·obtain⟨i,hi,l⟩:=i;have r:=λh:i<f.length=>Ge f (0,[]) (TY (b,hf)) h;simp only;repeat'(first|exact trivial|refine eS rfl ?_|refine rX d ?_ ?_|refine rC ?_ ?_<;>intro a<;>try(cases a;done))
   ·exact a
   ·have c:i<f.length:=No.1 (by assumption);have e:f.all (TY (b,hf))=false:=by
     rw[ABq];refine⟨_,AD f (0,[]) c,?_⟩;unfold TY;rw[ACi (ABC.2 a)];simp
    rw[BY e]at g;exact fI d [.tmp 4] (by rw[g];exact eR)
   ·have c:i<f.length:=No.1 (by assumption);have n:=AD f (0,[]) c;have o:TY (b,hf) (f.getD i (0,[]))=(f.getD i (0,[])).2.all (sO (b,hf)):=by
     unfold TY;rw[AC6 (show (f.getD i (0,[])).1<(b.length:Int) from a)];rfl
    have v:(f.getD i (0,[])).2.length<=100000:=hs.2 _ n;refine AG (ι:={k:Nat//k<=(f.getD i (0,[])).2.length/\((f.getD i (0,[])).2.take k).all (sO (b,hf))=true}) (λk=>⟨[(2,.bp 2 [] 0),(3,.bp 3 [] 0),(5,.bp 5 [] 0),(7,.p (.int .i64) (i:Int)),(8,.bp 8 [] 0),(9,.p (.int .i64) (k.1:Int))],[(2,.box 31 true [.p ST b,.p TQ hf]),(3,.box 25 true [.p Dv f]),(5,.box 25 true [.p Dv (A5 f).1]),(8,.box 49 true [.p T3 (f.getD i (0,[])).1,.p Ce (f.getD i (0,[])).2])]⟩) (λk=>(f.getD i (0,[])).2.length-k.1) ⟨0,by simp⟩ (eW [(2,.nm 2),(3,.nm 3),(5,.nm 5),(8,.nm 8)]) (λk=>?_)
    ·obtain⟨k,hk,m⟩:=k;have s:=λh:k<(f.getD i (0,[])).2.length=>Ge (f.getD i (0,[])).2 (0,0) (sO (b,hf)) h;simp only;repeat'(first|exact trivial|refine eS rfl ?_|refine AB ?_|refine rX d ?_ ?_|refine rC ?_ ?_<;>intro a<;>try(cases a;done))
     ·exact a
     ·have j:k<(f.getD i (0,[])).2.length:=No.1 (by assumption);have e:f.all (TY (b,hf))=false:=by
       rw[ABq];refine⟨_,n,?_⟩;rw[o,ABq.2 ⟨_,AD (f.getD i (0,[])).2 (0,0) j,by unfold sO;rw[ACi (ABC.2 a)];simp⟩];simp
      rw[BY e]at g;exact fI d [.tmp 4] (by rw[g];exact eR)
     ·exact eV
     ·have j:k<(f.getD i (0,[])).2.length:=No.1 (by assumption);refine⟨⟨k+1,j,?_⟩,by simp only;omega,AC [(2,.nm 2),(3,.nm 3),(5,.nm 5),(8,.nm 8)] rfl rfl ?_ ?_⟩
      ·rw[s j,m];unfold sO;exact AC6 a
      ·exact eN
      ·exact eN
     ·exact eV
     ·have j:(f.getD i (0,[])).2.take k=(f.getD i (0,[])).2:=An (aT.1 a);rw[j]at m;refine⟨⟨i+1,c,?_⟩,by simp only;omega,AC [(2,.nm 2),(3,.nm 3),(5,.nm 5)] rfl rfl ?_ ?_⟩
      ·rw[r c,l,o,m];rfl
      ·exact eN
      ·exact eN
   ·exact⟨hs,q⟩
   ·have c:f.take i=f:=An (aT.1 (by assumption));rw[c]at l;rw[At (by rw[l];simp),BY (by simpa using a)]at g;exact fI d [.tmp 4] (by rw[g];exact eR)
   ·have c:f.take i=f:=An (aT.1 (by assumption));rw[c]at l;rw[At (by rw[l];simp),At (by rw[a];simp)]at g;exact fI d [.tmp 4] (by rw[g];exact eR)
def Jn (h:AJ) (f:List AE):Bool:=HN f&&Co h f==0
end
section
attribute [local go_sem] QI QH VJ QL
def Bh (d:List AI):AJ:=if d.length<=12/\(Az d).2=0 then (Az d).1 else (Az IY).1
def YA (h:AJ) (l:List (List AE)):Bool:=l.all (Jn h)
end
section
def kI:Ae:={ ins:=[EL,T3],pre:=λ(_,i,_)=>(0:Int)<=i,out:=λ(b,i,_)=>[.p Pn (GM b i)],lend:=true }
attribute [local go_sem] kI
theorem A1g:Af Tryz.prog 107 kI:=by
 refine fK [0,1,4,8] Tryz.func107 Tryz.ntmps107 AH ?_;rintro w0 O0 ⟨b,i,u⟩ c-hi;simp only[kI,AM];repeat'(first|exact trivial|refine eS rfl ?_|refine rX c ?_ ?_|refine rC ?_ ?_<;>intro a<;>try(cases a;done))
 ·exact⟨hi,a⟩
 ·have h1:GM b i=b.getD i.toNat 0:=by unfold GM;rw[BY a]
  exact fI c [.tmp 4] (by rw[h1];exact eR)
 ·have h1:GM b i=0:=by unfold GM;rw[At (ABC.2 a)]
  exact fI c [.tmp 4] (by rw[h1];exact eR)
def Mb (a b:List Int):Bool:=(List.range a.length).all λi=>CA .andNot .u64 (a.getD i 0) (GM b (i:Int))==0
def dW (a b:List Int) (n:Nat):Bool:=(List.range n).all λi=>CA .andNot .u64 (a.getD i 0) (GM b (i:Int))==0
theorem kJ (a b:List Int) (n:Nat):dW a b (n+1)=(dW a b n&&CA .andNot .u64 (a.getD n 0) (GM b (n:Int))==0):=by
 unfold dW;rw[AAq,ACb];simp
def QM:Ae:={ ins:=[EL,EL],pre:=λ_=>True,out:=λ(a,b,_)=>[.p .bool (Mb a b)],lend:=true }
attribute [local go_sem] QM
theorem VU:Af Tryz.prog 69 QM:=by
 refine fK [0,1,4,5,6,7,8,9,10,19] Tryz.func69 Tryz.ntmps69 (AF A1g AH) ?_;rintro w0 O0 ⟨a,b,u⟩ e ⟨⟨g,-⟩,-⟩ -;simp only[AO]at g;simp only[QM,AM];repeat'(first|exact trivial|refine eS rfl ?_|refine rX e ?_ ?_)
 have h:Mb a b=dW a b a.length:=rfl;refine AG (ι:={n:Nat//n<=a.length/\dW a b n=true}) (λn=>⟨[(1,.p EL b),(7,.p EL a),(8,.p (.int .i64) (a.length:Int)),(9,.p (.int .i64) (n.1:Int))],[]⟩) (λn=>a.length-n.1) ⟨0,Is _,rfl⟩ (eW []) (λn=>?_)
 ·obtain⟨n,hn,f⟩:=n;have hs:=kJ a b n;simp only;repeat'(first|exact trivial|refine eS rfl ?_|refine AB ?_|refine rX e ?_ ?_|refine rC ?_ ?_<;>intro d<;>try(cases d;done))
  ·exact d
  ·have c:n<a.length:=by exact eV
   have h1:Mb a b=false:=by
    unfold Mb;rw[ABq];exact⟨n,oR.2 c,by simpa using d⟩
   exact fI e [.tmp 4] (by rw[h1];exact eR)
  ·exact eV
  ·have c:n<a.length:=by exact eV
   refine⟨⟨n+1,c,?_⟩,by simp only;omega,AC [] rfl rfl ?_ ?_⟩
   ·rw[hs,f];simpa using d
   ·exact eN
   ·exact eN
  ·have c:n=a.length:=by exact eV
   subst c;exact fI e [.tmp 4] (by rw[h,f];exact eR)
abbrev RY:HA:=(ByteArray.empty,[],[],[])
def A7 (h:AJ) (a b:Int):Bool:=Mb (h.1.getD b.toNat RY).2.1 (h.1.getD a.toNat RY).2.1
def YB:Ae:={ ins:=[F7,T3,T3],pre:=λ(h,a,b,_)=>((0:Int)<=a/\a<(List.length (h:AJ).1:Int))/\((0:Int)<=b/\b<(List.length (h:AJ).1:Int)),out:=λ(h,a,b,_)=>[.p .bool (A7 h a b)],lend:=true }
theorem A5d:Af Tryz.prog 39 YB:=by
 refine fK [0,1,2,3,6] Tryz.func39 Tryz.ntmps39 (AF VU AH) ?_;rintro w0 O0 ⟨⟨e,hf⟩,a,b,u⟩ c-⟨ha,d⟩;simp only[YB,AM];repeat'(first|exact trivial|refine eS rfl ?_|refine rX c ?_ ?_)
 ·exact⟨d,ha⟩
 ·exact fI c [.tmp 6] (by unfold A7;exact eR)
end
section
attribute [local go_sem] QM
def VV:Ae:={ ins:=[EL],pre:=λ(b,_)=>List.length b<=100000,out:=λ(b,_)=>[.p EL (BJ b)] }
attribute [local go_sem] VV
theorem kK:Af Tryz.prog 161 VV:=by
 refine fK [0,2,3,15] Tryz.func161 Tryz.ntmps161 AH ?_;rintro w0 O0 ⟨b,u⟩ d-f;have f:b.length<=100000:=f;simp only[VV,AM];repeat'(first|exact trivial|refine eS rfl ?_|refine rX d ?_ ?_)
 refine AG (ι:={n:Nat//n<=b.length/\Cf b n=Cf b b.length}) (λn=>⟨[(0,.p EL b),(3,.p (.int .i64) (n.1:Int))],[]⟩) (λn=>n.1) ⟨b.length,NO _,rfl⟩ (eW []) (λn=>?_)
 ·obtain⟨n,hn,g⟩:=n;simp only;repeat'(first|refine eS rfl ?_|refine AB ?_|refine rX d ?_ ?_|refine rC ?_ ?_<;>intro c<;>try(cases c;done))
  ·constructor
   ·exact eV
   ·intro h;refine⟨?_,?_⟩<;>exact eV
  ·exact eV
  ·obtain⟨h1,a⟩:=c;obtain⟨m,rfl⟩:∃m,n=m+1:=⟨n-1,by omega⟩;have e:(((m+1:Nat):Int)-1)=(m:Int):=by omega
   rw[e]at a;have a:b.getD m 0=0:=a;have j:Cf b m=Cf b b.length:=by
    rw[<-g];show _=if b.getD m 0=0 then Cf b m else m+1
    rw[BY a]
   refine⟨⟨m,by omega,j⟩,by simp,AC [] rfl rfl ?_ ?_⟩
   ·exact eN
   ·simp only[e];exact eN
  ·exact aT.2 hn
  ·have i:Cf b n=n:=by
    cases n with
    | zero=>rfl
    | succ m =>
     have e:(((m+1:Nat):Int)-1)=(m:Int):=by omega
     rw[e]at c;have a:=c (by omega);have a:¬b.getD m 0=0:=a;show (if b.getD m 0=0 then Cf b m else m+1)=m+1;rw[At a]
   have h1:BJ b=b.take n:=by unfold BJ;rw[<-g,i]
   rw[<-h1];exact fI d [.tmp 2]
def HD (g:Nat->Int) (n i:Nat):List Int:=(List.range n).map λj=>if j<i then g j else 0
theorem YC (g:Nat->Int) (n i:Nat):(HD g n i).length=n:=by simp[HD]
theorem kL (g:Nat->Int) (n:Nat):HD g n 0=List.replicate n 0:=by
 apply AAU
 ·simp[HD]
 ·intro j h1 a;simp[HD]
theorem wJ (g:Nat->Int) (n i:Nat):(HD g n i).set i (g i)=HD g n (i+1):=by
 apply AAU
 ·simp[HD]
 ·intro j h1 b;simp only[HD,List.getElem_set,ABZ,AC3];split
  ·rename_i e;rw[BY (by omega),e]
  ·rename_i e;by_cases a:j<i
   ·rw[BY a,BY (by omega)]
   ·rw[At a,At (by omega)]
def Zn (a b:List Int) (i:Nat):Int:=CA .and .u64 (a.getD i 0) (b.getD i 0)
def GA (a b:List Int):List Int:=BJ (HD (Zn a b) (min a.length b.length) (min a.length b.length))
def A1h:Ae:={ ins:=[EL,EL],pre:=λ(a,_,_)=>List.length a<=100000,out:=λ(a,b,_)=>[.p EL (GA a b)] }
attribute [local go_sem] A1h
theorem A5e:Af Tryz.prog 143 A1h:=by
 refine fK [0,1,4,5,6,14,15,16] Tryz.func143 Tryz.ntmps143 (AF kK AH) ?_;rintro w0 O0 ⟨a,b,u⟩ d-ha;have ha:a.length<=100000:=ha;simp only[A1h,AM];repeat'(first|exact trivial|refine eS rfl ?_|refine rX d ?_ ?_)
 ·split<;>simp only[AO]<;>dsimp only[Ty.den]at *<;>omega
 ·have h:Int.toNat (if ((List.length b:Nat):Int)<((List.length a:Nat):Int) then ((List.length b:Nat):Int) else ((List.length a:Nat):Int))=min (List.length a) (List.length b):=by split<;>omega
  rw[h];have j:GA a b=BJ (HD (Zn a b) (min a.length b.length) (min a.length b.length)):=rfl;have k:min a.length b.length<=a.length:=Nat.min_le_left _ _;have l:min a.length b.length<=b.length:=Nat.min_le_right _ _;generalize min a.length b.length=n at *;refine AG (ι:={i:Nat//i<=n}) (λi=>⟨[(0,.p EL a),(1,.p EL b),(5,.sr 12 Pn 0 n),(14,.p (.int .i64) (n:Int)),(15,.p (.int .i64) (i.1:Int))],[(12,.arr 155 Pn (HD (Zn a b) n i.1))]⟩) (λi=>n-i.1) ⟨0,Is _⟩ (AC [(12,.nm 12)] rfl rfl ?_ ?_) (λi=>?_)
  ·refine eM ?_;rw[kL]
  ·exact eN
  ·obtain⟨i,hi⟩:=i;have f:=YC (Zn a b) n i;simp only;repeat'(first|exact trivial|refine eS rfl ?_|refine AB ?_|refine rX d ?_ ?_|refine rC ?_ ?_<;>intro c<;>try(cases c;done))
   ·have e:i<n:=No.1 c;exact⟨by exact eV,by exact eV,c⟩
   ·exact eV
   ·have e:i<n:=No.1 c;refine⟨⟨i+1,e⟩,by simp only;omega,AC [(12,.nm 12)] rfl rfl ?_ ?_⟩
    ·simp only[<-wJ];refine eM ?_;rfl
    ·exact eN
   ·have e:i=n:=by omega
    subst e;have g:(HD (Zn a b) i i).take i=HD (Zn a b) i i:=An (by rw[f];exact NO _);refine Gc [12] ?_;repeat'(first|refine eS rfl ?_|refine rX d ?_ ?_)
    ·rw[g,f];dsimp only[Ty.den]at *;omega
    ·rw[g];exact fI d [.tmp 4] (by rw[j];exact eR)
def EC (a b:List Int):Bool:=Mb a b&&Mb b a
def Zo:Ae:={ ins:=[EL,EL],pre:=λ_=>True,out:=λ(a,b,_)=>[.p .bool (EC a b)],lend:=true }
attribute [local go_sem] Zo
theorem wK:Af Tryz.prog 146 Zo:=by
 refine fK [0,1,4] Tryz.func146 Tryz.ntmps146 (AF VU AH) ?_;rintro w0 O0 ⟨a,b,u⟩ c - -;simp only[Zo,AM];repeat'(first|exact trivial|refine eS rfl ?_|refine rX c ?_ ?_)
 exact fI c [.tmp 4] (by unfold EC;exact eR)
def E7 (c:List Int):Nat->List HA->Int
 | _,[]=>-1
 | k,t :: l=>if EC t.2.1 c=true then (k:Int) else E7 c (k+1) l
theorem kM (c:List Int) (l:List HA) {k:Nat} (h:k<l.length):E7 c k (l.drop k)=if EC (l.getD k RY).2.1 c=true then (k:Int) else E7 c (k+1) (l.drop (k+1)):=by
 rw[Of h];have e:l.getD k RY=l[k]:=by simp[AS,h]
 rw[e];rfl
theorem A1i (c:List Int) (t:HA):BA Tryz.prog 145 [.p T84 t,.bp 1 [] 0] [(1,.box 81 false [.p EL c])] [1] (λres b=>res=.p .bool (EC t.2.1 c)/\b=[(1,.box 81 false [.p EL c])]):=by
 refine Jh [0,1,2,3] [] [] Tryz.func145 Tryz.ntmps145 (AF wK AH) ?_;intro w0 K O0 ρ0 a d e;simp only[Aj];repeat'(first|exact trivial|refine eS rfl ?_|refine rX a ?_ ?_)
 refine Ev.ent (σ':=⟨[(3,.p .bool (EC t.2.1 c))],[(1,.box 81 false [.p EL c])]⟩) ?_ (AC [(1,.nm 1)] rfl rfl ?_ ?_)
 ·exact fM a [.tmp 3] (.p .bool (EC t.2.1 c)) eT ⟨rfl,rfl⟩
 ·exact eN
 ·exact eN
theorem wL (l:List HA) (c:List Int) (i:l.length<=100000):BA Tryz.prog 144 [.p ST l,.clo 145 [1]] [(1,.box 81 false [.p EL c])] [1] (λres g=>res=.p T3 (E7 c 0 l)/\g=[(1,.box 81 false [.p EL c])]):=by
 refine Jh [0,1,4,5,7,8,9,16] [] [] Tryz.func144 Tryz.ntmps144 AH ?_;intro w0 K O0 ρ0 b j m;simp only[Aj];repeat'(first|exact trivial|refine eS rfl ?_|refine rX b ?_ ?_)
 refine AG (ι:={k:Nat//k<=l.length/\E7 c k (l.drop k)=E7 c 0 l}) (λk=>⟨[(0,.p ST l),(1,.clo 145 [1]),(7,.p (.int .i64) (l.length:Int)),(8,.p (.int .i64) (k.1:Int))],[(1,.box 81 false [.p EL c])]⟩) (λk=>l.length-k.1) ⟨0,Is _,rfl⟩ (eW [(1,.nm 1)]) (λk=>?_)
 ·obtain⟨k,hk,hf⟩:=k;have f:=λh:k<l.length=>kM c l h;simp only;repeat'(first|exact trivial|refine eS rfl ?_|refine rX b ?_ ?_|refine rC ?_ ?_<;>intro a<;>try(cases a;done))
  ·have d:k<l.length:=No.1 a;have e:=f d;refine cP 5 b ?_ ?_
   ·exact a
   ·refine rM b (A1i c (l.getD k RY)) [(1,.nm 1)] [] ?_ ?_ ?_
    ·exact eN
    ·exact eN
    ·rintro _ _ ⟨rfl,rfl⟩;refine⟨[(1,.nm 1)],.p .bool (EC (l.getD k RY).2.1 c),[(1,.box 81 false [.p EL c])],rfl,rfl,?_,?_,rfl,rfl,CQ ?_⟩
     ·exact eN
     ·exact eN
     ·repeat'(first|exact trivial|refine eS rfl ?_|refine AB ?_|refine rX b ?_ ?_|refine rC ?_ ?_<;>intro a<;>try(cases a;done))
      ·have a:EC (l.getD k RY).2.1 c=true:=a;rw[BY a,hf]at e;refine Ev.ent (σ':=⟨[(4,.p (.int .i64) (k:Int))],[(1,.box 81 false [.p EL c])]⟩) ?_ (AC [(1,.nm 1)] rfl rfl ?_ ?_)
       ·exact fM b [.tmp 4] (.p T3 (k:Int)) eT ⟨by rw[e],rfl⟩
       ·exact eN
       ·exact eN
      ·omega
      ·have a:EC (l.getD k RY).2.1 c=false:=a;rw[At (by rw[a];simp)]at e;exact⟨⟨k+1,d,e.symm.trans hf⟩,by simp only;omega,eW [(1,.nm 1)]⟩
  ·have d:l.drop k=[]:=IF (aT.1 a);rw[d]at hf;have hf:(-1:Int)=E7 c 0 l:=hf;refine Ev.ent (σ':=⟨[(4,.p (.int .i64) (-1))],[(1,.box 81 false [.p EL c])]⟩) ?_ (AC [(1,.nm 1)] rfl rfl ?_ ?_)
   ·exact fM b [.tmp 4] (.p T3 (-1)) eT ⟨by rw[hf],rfl⟩
   ·exact eN
   ·exact eN
def BN (h:AJ) (t:Int):List Int:=(h.1.getD t.toNat RY).2.1
def CD (h:AJ) (a b:Int):Int×Bool :=
 if (GA (BN h a) (BN h b)).length=0 then (0,false) else if E7 (GA (BN h a) (BN h b)) 0 h.1<0 then (0,false) else (E7 (GA (BN h a) (BN h b)) 0 h.1,true)
def sP:Ae:={ ins:=[F7,T3,T3],pre:=λ(h,a,b,_)=>((0:Int)<=a/\a<(List.length (h:AJ).1:Int))/\((0:Int)<=b/\b<(List.length (h:AJ).1:Int))/\List.length (h:AJ).1<=100000/\(∀x∈(h:AJ).1,x.2.1.length<=100000),out:=λ(h,a,b,_)=>[.p T3 (CD h a b).1,.p .bool (CD h a b).2],lend:=true }
theorem sQ:Af Tryz.prog 110 sP:=by
 refine fK [0,1,2,3,6,7,8,9,25,31] Tryz.func110 Tryz.ntmps110 (AF A5e AH) ?_;rintro w0 O0 ⟨⟨d,hf⟩,a,b,u⟩ e-⟨ha,i,k,n⟩;simp only[sP,AM];refine Ev.ent (σ':=⟨[(0,.p F7 (d,hf)),(1,.p T3 a),(2,.p T3 b)],[]⟩) ?_ (AC [] rfl rfl ?_ ?_)
 ·repeat'(first|exact trivial|refine eS rfl ?_|refine rX e ?_ ?_|refine rC ?_ ?_<;>intro f<;>try(cases f;done))
  ·refine⟨ha,i,?_⟩;have h1:Int.toNat a<List.length d:=(ACK ha.1).2 ha.2;exact n _ (AD (d:List HA) RY h1)
  ·have l:CD (d,hf) a b=(0,false):=by
    unfold CD;rw[BY (by unfold BN;exact ACR f)]
   exact fI e [.tmp 6,.tmp 7] (by rw[l];exact eR)
  ·have j:∀c,c=GA (List.getD d (Int.toNat a) (ByteArray.empty,[],[],[])).2.1 (List.getD d (Int.toNat b) (ByteArray.empty,[],[],[])).2.1->c=GA (BN (d,hf) a) (BN (d,hf) b):=λc h=>h;have g:CD (d,hf) a b=if E7 (GA (BN (d,hf) a) (BN (d,hf) b)) 0 d<0 then (0,false) else (E7 (GA (BN (d,hf) a) (BN (d,hf) b)) 0 d,true):=by
    unfold CD;rw[At (λh=>f (by unfold BN at h;exact ABr Int.ofNat h))]
   generalize o:GA (List.getD d (Int.toNat a) (ByteArray.empty,[],[],[])).2.1 (List.getD d (Int.toNat b) (ByteArray.empty,[],[],[])).2.1=c at *;rw[<-j c rfl]at g;refine cP 3 e ?_ ?_
   ·trivial
   ·refine rM e (wL d c k) [(1,.nm 8)] [] ?_ ?_ ?_
    ·exact eN
    ·exact eN
    ·rintro _ _ ⟨rfl,rfl⟩;refine⟨[(8,.nm 1)],.p T3 (E7 c 0 d),[(8,.box 81 false [.p EL c])],rfl,rfl,?_,?_,rfl,rfl,?_⟩
     ·exact eN
     ·exact eN
     ·generalize E7 c 0 d=m at *;refine rL e ?_ ?_
      ·trivial
      ·repeat'(first|exact trivial|refine eS rfl ?_|refine rX e ?_ ?_|refine rC ?_ ?_<;>intro f<;>try(cases f;done))
       ·rw[BY f]at g;exact fI e [.tmp 6,.tmp 7] (by rw[g];exact eR)
       ·rw[At (ABC.2 f)]at g;exact fI e [.tmp 6,.tmp 7] (by rw[g];exact eR)
 ·exact eN
 ·exact eN
end
theorem VW (l:List (List Int)) (i k:Nat):l <+: Gf l i k:=by
 unfold Gf;split
 ·exact AD0 _ _
 ·exact AB6 _
theorem VX (i:Nat):∀(n k:Nat) (l:List (List Int)),l <+: Gg i n k l
 | 0,_,l=>AB6 l
 | n+1,k,l=>by
  unfold Gg;split
  ·exact(VW l i k).trans (VX i n (k+1) _)
  ·exact AB6 l
theorem QN:∀(n i:Nat) (l:List (List Int)),l <+: IQ n i l
 | 0,_,l=>AB6 l
 | n+1,i,l=>by
  unfold IQ;split
  ·exact(VX i i 0 l).trans (QN n (i+1) _)
  ·exact AB6 l
theorem QO {l m:List (List Int)} (h:l <+: m) {k:Nat} (hk:k<l.length):m.getD k []=l.getD k []:=by
 obtain⟨t,rfl⟩:=h;simp only[AS];rw[AAo hk]
def Ll (l:List (List Int)) (q p:Nat):Prop:=EM (l.getD q []) (l.getD p [])=[]\/EM (l.getD q []) (l.getD p [])∈l
theorem Ll.pre {l m:List (List Int)} (h:l <+: m) {q p:Nat} (b:q<l.length) (hp:p<l.length) (a:Ll l q p):Ll m q p:=by
 unfold Ll at a ⊢;rw[QO h b,QO h hp];rcases a with a|a
 ·exact .inl a
 ·exact .inr (h.subset a)
theorem A5f {l:List (List Int)} {b:List Int} (h:jP l b=true):b∈l:=by
 obtain⟨x,a,e⟩:=iS.1 h;have:x=b:=by simpa[GN] using e
 rw[<-this];exact a
theorem kN {l:List (List Int)} {i k:Nat} (hi:i<l.length) (hk:k<l.length):Ll (Gf l i k) i k:=by
 have hp:=VW l i k;unfold Ll;rw[QO hp hi,QO hp hk];unfold Gf;split
 ·right;simp
 ·rename_i a;rw[As,IS,dO]at a;by_cases h0:0<((EM (l.getD i []) (l.getD k [])).length:Int)
  ·right;cases hh:jP l (EM (l.getD i []) (l.getD k [])) with
   | true=>exact A5f hh
   | false=>exact absurd ⟨h0,hh⟩ a
  ·left;exact oN (by omega)
theorem VY {i:Nat}:∀ {n k:Nat} {l:List (List Int)},n+k=i->i<l.length->(Gg i n k l).length<=256->(∀p,p<k->Ll l i p)->∀p,p<i->Ll (Gg i n k l) i p
 | 0,k,l,hn,hi,a,h=>λp hp=>h p (by omega)
 | n+1,k,l,hn,hi,a,h=>by
  unfold Gg at a ⊢;split at a
  ·rename_i b;rw[BY b];have hp:=VW l i k;refine VY (by omega) (AB8 hi hp.length_le) a λp c=>?_;by_cases e:p=k
   ·subst e;exact kN hi (by omega)
   ·exact(h p (by omega)).pre hp hi (by omega)
  ·rename_i b;exact absurd (by omega:l.length<=256) b
theorem VZ:∀ {n i:Nat} {l:List (List Int)},257<=n+i->(IQ n i l).length<=256->i<=l.length->(∀q p,p<q->q<i->Ll l q p)->∀q p,p<q->q<(IQ n i l).length->Ll (IQ n i l) q p
 | 0,i,l,hn,a,f,h=>λq p c d=>by
  have j:l.length<=256:=a;omega
 | n+1,i,l,hn,a,f,h=>by
  unfold IQ at a ⊢;split at a
  ·rename_i b;rw[BY b];have hp:=VX i i 0 l;have k:=hp.length_le;have g:=(QN n (i+1) (Gg i i 0 l)).length_le;refine VZ (by omega) a (by omega) λq p c d=>?_;by_cases e:q=i
   ·subst e;exact VY (by omega) b.1 (by omega) (λp hp=>by omega) p c
   ·exact(h q p c (by omega)).pre hp (by omega) (by omega)
  ·rename_i b;rw[At b];intro q p c d;exact h q p c (by
    refine DO λhh=>b ⟨by omega,a⟩)
theorem Zp {c:List (List Int)} (a:(Av c).length<=256):∀q p,p<q->q<(Av c).length->Ll (Av c) q p :=
 VZ (by omega) a (Is _) (λq p _ h=>by omega)
theorem A1j (a b:List Int) (k:Nat):(EM a b).getD k 0=if k<a.length then CA .and .u64 (a.getD k 0) (b.getD k 0) else 0:=by
 unfold EM;rw[Pz];split
 ·rename_i h;exact NC .and a b h
 ·rename_i h;rw[AS,iF (by rw[Eu];omega)];rfl
theorem HE {b:List Int} {k:Nat} (h:¬k<b.length):b.getD k 0=0:=by
 rw[AS,iF (by omega)];rfl
theorem LL {a b:List Int} (ha:IT a) (c:IT b) (i:Nat):BF (EM a b) i=(BF a i&&BF b i):=by
 unfold BF;rw[A1j];split
 ·rw[IR (BH ha _) (BH c _),gO,Nat.testBit_and]
 ·rename_i h;rw[HE h];simp
theorem NG {a b:List Int} (ha:IT a) (d:IT b):IT (EM a b):=by
 refine OW λx c=>?_;unfold Gd at c;obtain⟨i,-,rfl⟩:=Do.1 c;rw[Hr,IR (BH ha _) (BH d _)];have h1:=BH ha i;have e:(a.getD i 0).toNat &&& (b.getD i 0).toNat<=(a.getD i 0).toNat:=ACT;have f:=h1.1;have g:=h1.2;exact⟨AAp _,by omega⟩
theorem RZ (b:List Int):∀n,Cf b n=0\/b.getD (Cf b n-1) 0≠0
 | 0=>.inl rfl
 | n+1=>by
  unfold Cf;split
  ·exact RZ b n
  ·rename_i h;right;simpa using h
theorem A5g {n:Nat} (h0:n≠0) (h1:n<18446744073709551616):∃r,r<64/\n.testBit r=true:=by
 refine DO λb=>h0 ?_;refine Nat.eq_of_testBit_eq λr=>?_;rw[Nat.zero_testBit];by_cases c:r<64
 ·cases a:n.testBit r with
  | false=>rfl
  | true=>exact absurd ⟨r,c,a⟩ b
 ·have e:(18446744073709551616:Nat)=2 ^ 64:=by decide
  rw[e]at h1;exact Nat.testBit_lt_two_pow (AB8 h1 (Nat.pow_le_pow_right (by decide) (by omega)))
theorem dX {b:List Int} (a:IT b) {k:Nat} (h:b.getD k 0≠0):∃i,BF b i=true:=by
 have hu:=BH a k;have h1:=hu.1;have d:=hu.2;obtain⟨r,e,c⟩:=A5g (n:=(b.getD k 0).toNat) (by omega) (by omega);refine⟨64*k+r,?_⟩;unfold BF;rw[show (64*k+r) / 64=k by omega,show (64*k+r) % 64=r by omega];exact c
theorem kO {b:List Int} (a:IT b) (h:BJ b≠[]):∃i,BF b i=true:=by
 rcases RZ b b.length with h1|h1
 ·exact absurd (by unfold BJ;rw[h1];rfl) h
 ·exact dX a h1
theorem YD {a b:List Int} (ha:IT a) (c:IT b) (h:∀i,BF a i=true->BF b i=true) (k:Nat):CA .andNot .u64 (a.getD k 0) (b.getD k 0)=0:=by
 rw[RN];have:(BitVec.ofInt 64 (a.getD k 0) &&& ~~~BitVec.ofInt 64 (b.getD k 0))=0#64:=by
  apply BitVec.eq_of_getLsbD_eq;intro r e;rw[BitVec.getLsbD_and,BitVec.getLsbD_not,<-AC9,<-AC9,Fi (BH ha k),Fi (BH c k)];have hk:=h (64*k+r);unfold BF at hk;rw[show (64*k+r) / 64=k by omega,show (64*k+r) % 64=r by omega]at hk;cases d:(a.getD k 0).toNat.testBit r with
  | false=>simp
  | true=>rw[hk d];simp
 rw[this];rfl
theorem Gi {a b:List Int} (ha:IT a) (c:IT b):FQ a b=true↔∀i,BF a i=true->BF b i=true:=by
 constructor
 ·exact λh i hi=>MV ha c h hi
 ·intro h;unfold FQ RI BJ;have h1:Cf (Gd .andNot a b a.length) (Gd .andNot a b a.length).length=0:=by
   rw[Eu];exact RP λk hk=>by rw[NC _ _ _ hk];exact YD ha c h k
  rw[h1];rfl
structure JS (l:List (List Int)):Prop where
 wds:∀c∈l,IT c
 some:∀c∈l,∃i,BF c i=true
 wid:∀c∈l,c.length<=64
 meet:∀a∈l,∀b∈l,(∃i,BF a i=true/\BF b i=true)->∃t∈l,∀i,BF t i=(BF a i&&BF b i)
structure Bs (l:List (List Int)):Prop where
 wds:∀c∈l,IT c
 some:∀c∈l,∃i,BF c i=true
theorem Ra {l:List (List Int)} {k:Nat} (h:¬k<l.length):l.getD k []=[]:=by
 rw[AS,iF (by omega)];rfl
theorem Bs.get {l:List (List Int)} (h:Bs l) (k:Nat):IT (l.getD k []):=by
 by_cases hk:k<l.length
 ·exact h.wds _ (BD hk)
 ·rw[Ra hk];intro x a;cases a
theorem A5h {l:List (List Int)} (h:Bs l) (i k:Nat):Bs (Gf l i k):=by
 unfold Gf;split
 ·rename_i b;rw[As,IS]at b;refine⟨λc a=>?_,λc a=>?_⟩
  ·rcases OF.1 a with a|a
   ·exact h.wds c a
   ·have:c=EM (l.getD i []) (l.getD k []):=by simpa using a
    rw[this];exact NG (h.get i) (h.get k)
  ·rcases OF.1 a with a|a
   ·exact h.some c a
   ·have:c=EM (l.getD i []) (l.getD k []):=by simpa using a
    rw[this];have g:EM (l.getD i []) (l.getD k [])≠[]:=by
     intro e;rw[e]at b;exact absurd b.1 (by simp)
    have m:IT (Gd .and (l.getD i []) (l.getD k []) (l.getD i []).length):=by
     intro x d;unfold Gd at d;obtain⟨j,-,rfl⟩:=Do.1 d;rw[Hr,IR (BH (h.get i) _) (BH (h.get k) _)];have h1:=BH (h.get i) j;have n:((l.getD i []).getD j 0).toNat &&& ((l.getD k []).getD j 0).toNat<=((l.getD i []).getD j 0).toNat:=ACT;have o:=h1.1;have p:=h1.2;exact⟨AAp _,by omega⟩
    obtain⟨j,f⟩:=kO m g;exact⟨j,by unfold EM;rw[OV];exact f⟩
 ·exact h
theorem sR {i:Nat}:∀ {n k:Nat} {l:List (List Int)},Bs l->Bs (Gg i n k l)
 | 0,_,_,h=>h
 | n+1,k,l,h=>by
  unfold Gg;split
  ·exact sR (A5h h i k)
  ·exact h
theorem sS:∀ {n i:Nat} {l:List (List Int)},Bs l->Bs (IQ n i l)
 | 0,_,_,h=>h
 | n+1,i,l,h=>by
  unfold IQ;split
  ·exact sS (sR h)
  ·exact h
theorem wM {d:List AI} (f:A4 d=0):Bs (AR d):=by
 obtain⟨-,l,-⟩:=Ax f;have h:=D9 d d.length;rw[iN]at h;have b:(AN d).length<=4096:=by omega
 refine⟨λc a=>?_,λc a=>?_⟩
 ·unfold AR at a;obtain⟨s,-,rfl⟩:=Do.1 a;exact(Bt (d:=d) b s 0).2.1
 ·unfold AR at a;obtain⟨s,hs,rfl⟩:=Do.1 a;obtain⟨j,g,e⟩:=Cg ByteArray.empty hs;have i:0<=Ao d s:=by
   obtain⟨x,k,e⟩:=Cu hs;rw[<-e];exact Db k
  exact⟨j,(Bt (d:=d) b s j).1.2 ⟨g,by rw[e];exact OX i⟩⟩
theorem Va {d:List AI} (l:A4 d=0) (s:(Av (AR d)).length<=256):JS (Av (AR d)):=by
 obtain⟨-,o,-⟩:=Ax l;have g:Bs (Av (AR d)):=sS (wM l);have n:=Zp s;refine⟨g.wds,g.some,QD (Ob o),λa ha b r hi=>?_⟩;obtain⟨q,f,rfl⟩:=Cg [] ha;obtain⟨p,hp,rfl⟩:=Cg [] r;have key:∀q p,q<(Av (AR d)).length->p<(Av (AR d)).length->Ll (Av (AR d)) q p->(∃i,BF ((Av (AR d)).getD q []) i=true/\BF ((Av (AR d)).getD p []) i=true) ->
   ∃t∈Av (AR d),∀i,BF t i=(BF ((Av (AR d)).getD q []) i&&BF ((Av (AR d)).getD p []) i):=by
  intro q p f hp c hi;have m:=LL (g.get q) (g.get p);rcases c with c|c
  ·obtain⟨i,j,k⟩:=hi;have:=m i;rw[c,j,k]at this;unfold BF at this;simp at this
  ·exact⟨_,c,m⟩
 rcases ACC p q with h|h|h
 ·exact key q p f hp (n q p h f) hi
 ·subst h;exact⟨_,BD f,λi=>by rw[Bool.and_self]⟩
 ·obtain⟨t,u,e⟩:=key p q hp f (n p q h hp) (by obtain⟨i,j,k⟩:=hi;exact⟨i,k,j⟩);exact⟨t,u,λi=>by rw[e i,Bool.and_comm]⟩
def HO (h:AJ):Prop:=JS (h.1.map λt=>t.2.1)/\h.1.length<=256
theorem HF (d:List AI):HO (Az d).1:=by
 unfold Az;split
 ·exact⟨⟨λc h=>(by cases h),λc h=>(by cases h),λc h=>(by cases h),λc h=>(by cases h)⟩,by simp⟩
 ·rename_i g;have g:(BC d).2=0:=DO g;have m:Aw d=0:=by
   unfold BC at g;split at g
   ·rename_i h;exact absurd g h
   ·rename_i h;exact DO h
  obtain⟨p,-,-⟩:=CC m;obtain⟨l,k,-⟩:=BU p;have hf:=Va l k;have f:∀c,c∈((Bn d).1.map λt=>t.2.1)↔c∈Av (AR d):=by
   intro c;have e:((Bn d).1.map λt=>t.2.1)=(AL d).map λx=>x.2:=by
    show ((Ed _ _ _).map λt=>t.2.1)=_;unfold Ed;rw[ABm];apply AAU
    ·simp
    ·intro i h1 q;simp[AS,show i<(AL d).length by simpa using h1]
   rw[e];constructor
   ·intro h;obtain⟨x,o,rfl⟩:=Do.1 h;obtain⟨b,j,rfl⟩:=Dd.1 o;exact j
   ·intro h;exact Do.2 ⟨_,Dd.2 ⟨c,h,rfl⟩,rfl⟩
  refine⟨⟨λc h=>hf.wds c ((f c).1 h),λc h=>hf.some c ((f c).1 h),λc h=>hf.wid c ((f c).1 h),λa ha b j hi=>?_⟩,?_⟩
  ·obtain⟨t,n,e⟩:=hf.meet a ((f a).1 ha) b ((f b).1 j) hi;exact⟨t,(f t).2 n,e⟩
  ·show (Ed _ _ _).length<=256;rw[KL,IV];exact k
theorem B7 {h:AJ} {t:Int} (a:0<=t) (b:t<(h.1.length:Int)):BN h t∈h.1.map λt=>t.2.1 :=
 Do.2 ⟨_,AD h.1 RY (k:=t.toNat) (by omega),rfl⟩
theorem Vb {a b:List Int} (ha:IT a) (c:IT b):Mb a b=true↔∀i,BF a i=true->BF b i=true:=by
 constructor
 ·intro h i hi;by_cases hk:i / 64<a.length
  ·have h1:=IN.1 h (i / 64) (oR.2 hk);rw[AAN,Hr]at h1;exact SY (BH ha _) (BH c _) h1 (ADm _ (by decide)) hi
  ·exfalso;unfold BF at hi;rw[HE hk]at hi;simp at hi
 ·intro h;unfold Mb;rw[IN];intro k _;rw[AAN,Hr];exact YD ha c h k
theorem A1k {a b:List Int} (ha:IT a) (c:IT b) (i:Nat):BF (GA a b) i=(BF a i&&BF b i):=by
 unfold GA;rw[OV];unfold BF;have:(HD (Zn a b) (min a.length b.length) (min a.length b.length)).getD (i / 64) 0=CA .and .u64 (a.getD (i / 64) 0) (b.getD (i / 64) 0):=by
  by_cases h:i / 64<min a.length b.length
  ·unfold HD;rw[AS,AA1,AB1 h];show (if i / 64<min a.length b.length then Zn a b (i / 64) else 0)=_;rw[BY h];rfl
  ·rw[HE (by rw[YC];exact h),IR (BH ha _) (BH c _)];by_cases h1:i / 64<a.length
   ·rw[HE (b:=b) (by omega)];simp
   ·rw[HE (b:=a) h1];simp
 rw[this,IR (BH ha _) (BH c _),gO,Nat.testBit_and]
theorem A1l {a b:List Int} (ha:IT a) (d:IT b):IT (GA a b):=by
 refine OW λx c=>?_;unfold HD at c;obtain⟨j,-,rfl⟩:=Do.1 c;split
 ·unfold Zn;rw[IR (BH ha _) (BH d _)];have h1:=BH ha j;have e:(a.getD j 0).toNat &&& (b.getD j 0).toNat<=(a.getD j 0).toNat:=ACT;have f:=h1.1;have g:=h1.2;exact⟨AAp _,by omega⟩
 ·exact⟨by decide,by decide⟩
theorem Vc (c:List Int):∀(l:List HA) (k:Nat),(E7 c k l=-1/\∀t∈l,EC t.2.1 c=false)\/((k:Int)<=E7 c k l/\E7 c k l<(k:Int)+l.length/\EC (l.getD ((E7 c k l).toNat-k) RY).2.1 c=true)
 | [],k=>.inl ⟨rfl,λt a=>by cases a⟩
 | x :: l,k=>by
  simp only[E7];split
  ·rename_i h;right;refine⟨by omega,by simp only[OS];omega,?_⟩;rw[show ((k:Int).toNat-k)=0 by omega];exact h
  ·rename_i h;have h:EC x.2.1 c=false:=by simpa using h
   rcases Vc c l (k+1) with ⟨h1,b⟩|⟨h1,b,d⟩
   ·left;refine⟨h1,λt a=>?_⟩;rcases By.1 a with rfl|a
    ·exact h
    ·exact b t a
   ·right;refine⟨by omega,by simp only[OS];omega,?_⟩;rw[show ((E7 c (k+1) l).toNat-k)=((E7 c (k+1) l).toNat-(k+1))+1 by omega];exact d
def dY (h:AJ) (t:Int) (i:Nat):Bool:=BF (BN h t) i
theorem BP {h:AJ} (hk:HO h) {a b:Int} (a0:0<=a) (c:a<(h.1.length:Int)) (d:0<=b) (b1:b<(h.1.length:Int)):A7 h a b=true↔∀i,dY h b i=true->dY h a i=true :=
 Vb (hk.1.wds _ (B7 d b1)) (hk.1.wds _ (B7 a0 c))
theorem A1m {h:AJ} (hk:HO h) {a b:Int} (a0:0<=a) (g:a<(h.1.length:Int)) (j:0<=b) (b1:b<(h.1.length:Int)) :
  ((CD h a b).2=true->0<=(CD h a b).1/\(CD h a b).1<(h.1.length:Int)/\∀i,dY h (CD h a b).1 i=(dY h a i&&dY h b i))/\((∃i,dY h a i=true/\dY h b i=true)->(CD h a b).2=true):=by
 have r:=hk.1.wds _ (B7 a0 g);have s:=hk.1.wds _ (B7 j b1);have c:=A1k r s;have n:=A1l r s;have heq:∀t∈h.1,EC t.2.1 (GA (BN h a) (BN h b))=true↔∀i,BF t.2.1 i=BF (GA (BN h a) (BN h b)) i:=by
  intro t d;have wt:=hk.1.wds t.2.1 (Do.2 ⟨t,d,rfl⟩);unfold EC;rw[As,Vb wt n,Vb n wt];constructor
  ·rintro⟨u,v⟩ i;rw[ABX];exact⟨u i,v i⟩
  ·intro e;exact⟨λi hi=>by rw[<-e i];exact hi,λi hi=>by rw[e i];exact hi⟩
 unfold CD;by_cases f:(GA (BN h a) (BN h b)).length=0
 ·rw[BY f];refine⟨λe=>(by cases e),?_⟩;rintro⟨i,p,q⟩;exfalso;have:=c i;rw[oN f]at this;unfold dY at p q;rw[p,q]at this;unfold BF at this;simp at this
 ·rw[At f];rcases Vc (GA (BN h a) (BN h b)) h.1 0 with ⟨h1,l⟩|⟨h1,l,m⟩
  ·rw[BY (by omega)];refine⟨λe=>(by cases e),λhi=>?_⟩;exfalso;obtain⟨t,d,e⟩:=hk.1.meet _ (B7 a0 g) _ (B7 j b1) hi;obtain⟨x,o,rfl⟩:=Do.1 d;have:=(heq x o).2 (λi=>by rw[c i];exact e i);rw[l x o]at this;cases this
  ·have h1:0<=E7 (GA (BN h a) (BN h b)) 0 h.1:=by omega
   rw[At (by omega)];refine⟨λ_=>⟨h1,by simp only;omega,λi=>?_⟩,λ_=>rfl⟩;rw[Nat.sub_zero]at m;have w:=AD h.1 RY (k:=(E7 (GA (BN h a) (BN h b)) 0 h.1).toNat) (by omega);have:=(heq _ w).1 m i;rw[c i]at this;exact this
theorem Mc {h:AJ} (hk:HO h) {a b:Int} (a0:0<=a) (l:a<(h.1.length:Int)) (m:0<=b) (b1:b<(h.1.length:Int)) :
  ((CD h a b).2=true->0<=(CD h a b).1/\(CD h a b).1<(h.1.length:Int)/\A7 h a (CD h a b).1=true/\A7 h b (CD h a b).1=true) /\
  ∀x,0<=x->x<(h.1.length:Int)->A7 h a x=true->A7 h b x=true->(CD h a b).2=true/\A7 h (CD h a b).1 x=true:=by
 obtain⟨q,t⟩:=A1m hk a0 l m b1;refine⟨λe=>?_,λx g k r s=>?_⟩
 ·obtain⟨c,d,f⟩:=q e;refine⟨c,d,(BP hk a0 l c d).2 λi hi=>?_,(BP hk m b1 c d).2 λi hi=>?_⟩
  ·rw[f i,As]at hi;exact hi.1
  ·rw[f i,As]at hi;exact hi.2
 ·have n:=(BP hk a0 l g k).1 r;have o:=(BP hk m b1 g k).1 s;obtain⟨i,hi⟩:=hk.1.some _ (B7 g k);have e:=t ⟨i,n i hi,o i hi⟩;obtain⟨c,d,f⟩:=q e;refine⟨e,(BP hk c d g k).2 λj p=>?_⟩;rw[f j,As];exact⟨n j p,o j p⟩
def Nrm (c:List Int):Prop:=c.length=0\/c.getD (c.length-1) 0≠0
theorem LM (b:List Int):Nrm (BJ b):=by
 unfold Nrm BJ;have a:=Us b b.length;rw[ON,ABk a];rcases RZ b b.length with h|h
 ·exact .inl h
 ·by_cases h0:Cf b b.length=0
  ·exact .inl h0
  ·right;rw[AS,List.getElem?_take_of_lt (by omega),<-AS];exact h
theorem A5i {a b:List Int} (ha:IT a) (f:IT b) (h:∀i,BF a i=BF b i) (k:Nat):a.getD k 0=b.getD k 0:=by
 have c:=BH ha k;have d:=BH f k;have j:=c.1;have l:=c.2;have m:=d.1;have o:=d.2;have e:(a.getD k 0).toNat=(b.getD k 0).toNat:=by
  refine Nat.eq_of_testBit_eq λr=>?_;by_cases g:r<64
  ·have:=h (64*k+r);unfold BF at this;rw[show (64*k+r) / 64=k by omega,show (64*k+r) % 64=r by omega]at this;exact this
  ·have big:∀n:Nat,n<18446744073709551616->n.testBit r=false:=λn hn=>by
    have e:(18446744073709551616:Nat)=2 ^ 64:=by decide
    rw[e]at hn;exact Nat.testBit_lt_two_pow (AB8 hn (Nat.pow_le_pow_right (by decide) (by omega)))
   rw[big _ (by omega),big _ (by omega)]
 omega
theorem sT {a b:List Int} (d:∀k,a.getD k 0=b.getD k 0) (c:Nrm b):b.length<=a.length:=by
 rcases c with h|h
 ·omega
 ·refine DO λe=>h ?_;rw[<-d];exact HE (by omega)
theorem Zq {a b:List Int} (ha:IT a) (e:IT b) (g:Nrm a) (j:Nrm b) (h:∀i,BF a i=BF b i):a=b:=by
 have c:=A5i ha e h;have f:a.length=b.length:=ACr (sT (λk=>(c k).symm) g) (sT c j);refine AAU f λi h1 d=>?_;have:=c i;simpa[AS,h1,d] using this
theorem dZ {α:Type} (l:List α) (x:α) (n:Nat):List.Perm (l.take n++[x]++l.drop n) (x :: l):=by
 have h:l.take n++[x]++l.drop n=l.take n++x :: l.drop n:=by simp
 rw[h];refine ADe.trans ?_;rw[AC1]
def sU (l:List ByteArray):Prop:=l.Pairwise λa b=>Ac a b=false
theorem Md {a b:ByteArray} (h:Ac a b=false):Ac b a=false:=by
 cases hh:Ac b a with
 | false=>rfl
 | true=>rw[EA hh]at h;cases h
theorem Vd {l:List ByteArray} {s:ByteArray} (h:sU l) (hs:∀x∈l,Ac x s=false):sU (Ea l s):=by
 unfold Ea;split
 ·exact h
 ·refine(List.Perm.pairwise_iff (λb=>Md b) (dZ l s _)).2 ?_;exact AAX.2 ⟨λx a=>Md (hs x a),h⟩
theorem Ve {d:List AI} (hn:Cl d=0):sU (AN d):=by
 have key:∀k,k<=d.length->sU (AN (d.take k))/\∀s∈AN (d.take k),∃i,i<k/\(d.getD i d0).1=s:=by
  intro k;induction k with
  | zero =>
   intro _;exact⟨.nil,λs hs=>by cases hs⟩
  | succ k c =>
   intro hk;obtain⟨h1,a⟩:=c (by omega);have e:AN (d.take (k+1))=Ea (AN (d.take k)) (d.getD k d0).1:=by
    have:d.take (k+1)=d.take k++[d.getD k d0]:=AW d d0 (by omega);rw[this];unfold AN;rw[ABU];rfl
   rw[e];refine⟨Vd h1 λx b=>?_,λs hs=>?_⟩
   ·obtain⟨i,hi,rfl⟩:=a x b;cases hh:Ac (d.getD i d0).1 (d.getD k d0).1 with
    | false=>rfl
    | true =>
     have g:=JP d hh;rw[MW hn (j:=i) (by omega),MW hn (j:=k) (by omega)]at g;omega
   ·rcases G7 hs with hs|hs
    ·obtain⟨i,hi,e⟩:=a s hs;exact⟨i,by omega,e⟩
    ·exact⟨k,by omega,hs.symm⟩
 have:=(key d.length (NO _)).1
 rwa [iN]at this
structure Nd (l:List (List Int)):Prop where
 nd:l.Nodup
 nrm:∀c∈l,Nrm c
theorem A5j {l:List (List Int)} {c:List Int} (h:Nd l) (b:c∉l) (hn:Nrm c):Nd (l++[c]):=by
 refine⟨?_,λx a=>?_⟩
 ·rw[ABd];refine⟨h.nd,by simp,λx a y d e=>b ?_⟩;have:y=c:=by simpa using d
  rw[<-this,<-e];exact a
 ·rcases OF.1 a with a|a
  ·exact h.nrm x a
  ·have:x=c:=by simpa using a
   rw[this];exact hn
theorem A5k {l:List (List Int)} (h:Nd l) (i k:Nat):Nd (Gf l i k):=by
 unfold Gf;split
 ·rename_i a;rw[As,dO]at a;refine A5j h (λb=>?_) (LM _);have:jP l (EM (l.getD i []) (l.getD k []))=true:=iS.2 ⟨_,b,by unfold GN;exact AC6 rfl⟩;rw[this]at a;cases a.2
 ·exact h
theorem sV {i:Nat}:∀ {n k:Nat} {l:List (List Int)},Nd l->Nd (Gg i n k l)
 | 0,_,_,h=>h
 | n+1,k,l,h=>by
  unfold Gg;split
  ·exact sV (A5k h i k)
  ·exact h
theorem TZ:∀ {n i:Nat} {l:List (List Int)},Nd l->Nd (IQ n i l)
 | 0,_,_,h=>h
 | n+1,i,l,h=>by
  unfold IQ;split
  ·exact TZ (sV h)
  ·exact h
theorem Rb {d:List AI} (m:A4 d=0):Nd (AR d):=by
 obtain⟨-,l,-,hn,p⟩:=Ax m;have q:=D9 d d.length;rw[iN]at q;have hap:=Ve hn;refine⟨?_,λc n=>?_⟩
 ·unfold AR List.Nodup;rw[ABc,tO];intro i j hi a o e;have h1:=(tO.1 hap) i j hi a o;have g:∀k,(hk:k<(AN d).length)->(AN d).getD k ByteArray.empty=(AN d)[k]:=λk hk=>by simp[AS,hk]
  have f:=(Bt (d:=d) (all:=AN d) (by omega) (AN d)[j] 0).2.1;have b:=dC hn p l hi a (by
   rw[g i hi,g j a,e];unfold DT;have:=(Gi f f).2 λ_ h=>h;rw[this];rfl)
  rw[g i hi,g j a,h1]at b;cases b
 ·obtain⟨s,hs,rfl⟩:=Do.1 n;unfold Ew ofF;split
  ·exact LM _
  ·exact .inl rfl
theorem Me {d:List AI}:∀ {l:List (List Int)} {o:List AQ},(o.map (·.2)++l).Nodup->((l.foldl (RQ d) o).map (·.2)).Nodup
 | [],o,h=>by simpa using h
 | b :: l,o,h=>by
  rw[TO];refine Me ?_;unfold RQ Gh Zg;have hp:=(dZ o (G8 d (AN d) (AR d) b,b) (Fk (G8 d (AN d) (AR d) b,b) o o.length)).map (λx:AQ=>x.2);have c:List.Perm ((o.take (Fk (G8 d (AN d) (AR d) b,b) o o.length)++[(G8 d (AN d) (AR d) b,b)]++o.drop (Fk (G8 d (AN d) (AR d) b,b) o o.length)).map (λx:AQ=>x.2)++l) (o.map (·.2)++b :: l) :=
   (hp.append_right l).trans (ADe (a:=b)).symm
  exact c.nodup_iff.2 h
def HP (h:AJ):Prop:=∀a b,0<=a->a<(h.1.length:Int)->0<=b->b<(h.1.length:Int)->A7 h a b=true->A7 h b a=true->a=b
theorem A78 {h:AJ} (hk:HO h) (hn:Nd (h.1.map λt=>t.2.1)):HP h:=by
 intro a b a0 c d b1 h1 f;have l:=hk.1.wds _ (B7 a0 c);have m:=hk.1.wds _ (B7 d b1);have e:BN h a=BN h b:=Zq l m (hn.nrm _ (B7 a0 c)) (hn.nrm _ (B7 d b1)) λi=>by
  rw[ABX];exact⟨(BP hk d b1 a0 c).1 f i,(BP hk a0 c d b1).1 h1 i⟩
 have hp:=tO.1 hn.nd;have g:∀k:Int,0<=k->(hk:k<(h.1.length:Int))->BN h k=(h.1.map λt=>t.2.1)[k.toNat]'(by rw[On];omega):=λk n o=>by
  unfold BN;simp[AS,show k.toNat<h.1.length by omega]
 rw[g a a0 c,g b d b1]at e;rcases Int.lt_trichotomy a b with j|heq|j
 ·exact absurd e (hp a.toNat b.toNat (by rw[On];omega) (by rw[On];omega) (by omega))
 ·exact heq
 ·exact absurd e.symm (hp b.toNat a.toNat (by rw[On];omega) (by rw[On];omega) (by omega))
theorem Sf (d:List AI):HP (Az d).1:=by
 refine A78 (HF d) ?_;unfold Az;split
 ·exact⟨.nil,λc h=>(by cases h)⟩
 ·rename_i a;have a:(BC d).2=0:=DO a;have g:Aw d=0:=by
   unfold BC at a;split at a
   ·rename_i h;exact absurd a h
   ·rename_i h;exact DO h
  obtain⟨m,-,-⟩:=CC g;obtain⟨f,o,-⟩:=BU m;have hf:Nd (Av (AR d)):=TZ (Rb f);have e:((Bn d).1.map λt=>t.2.1)=(AL d).map λx=>x.2:=by
   show ((Ed _ _ _).map λt=>t.2.1)=_;unfold Ed;rw[ABm];apply AAU
   ·simp
   ·intro i h1 n;simp[AS,show i<(AL d).length by simpa using h1]
  show Nd ((Bn d).1.map λt=>t.2.1);rw[e];refine⟨Me (by simpa using hf.nd),λc k=>?_⟩;obtain⟨x,l,rfl⟩:=Do.1 k;obtain⟨b,j,rfl⟩:=Dd.1 l;exact hf.nrm b j
section
attribute [local go_sem] sP
def Dx (f:Int):List (Int×Int)->Int×Bool
 | []=>(0,false)
 | x :: l=>if x.1=f then (x.2,true) else Dx f l
theorem Vf (f:Int) (l:List (Int×Int)) {k:Nat} (h:k<l.length):Dx f (l.drop k)=if (l.getD k (0,0)).1=f then ((l.getD k (0,0)).2,true) else Dx f (l.drop (k+1)):=by
 rw[Of h];have e:l.getD k (0,0)=l[k]:=by simp[AS,h]
 rw[e];rfl
def Jo (h:AJ) (t:Int):List (Int×Int):=(h.1.getD t.toNat RY).2.2.2
def B8 (h:AJ) (t f:Int):Int×Bool:=Dx f (Jo h t)
def Ns:Ae:={ ins:=[F7,T3,T3],pre:=λ(h,t,_,_)=>(0:Int)<=t/\t<(List.length (h:AJ).1:Int),out:=λ(h,t,f,_)=>[.p T3 (B8 h t f).1,.p .bool (B8 h t f).2],lend:=true }
attribute [local go_sem] Ns
theorem sW:Af Tryz.prog 26 Ns:=by
 refine fK [0,1,2,3,6,7,9,15,16,17,18,26] Tryz.func26 Tryz.ntmps26 AH ?_;rintro w0 O0 ⟨⟨d,hf⟩,t,f,u⟩ a q ⟨j,m⟩;simp only[Ns,AM];refine Ev.ent (σ':=⟨[(0,.p F7 (d,hf)),(1,.p T3 t),(2,.p T3 f)],[]⟩) ?_ (AC [] rfl rfl ?_ ?_)
 ·repeat'(first|exact trivial|refine eS rfl ?_|refine rX a ?_ ?_)
  ·exact⟨j,m⟩
  ·have o:∀l,l=(List.getD d (Int.toNat t) (ByteArray.empty,[],[],[])).2.2.2->B8 (d,hf) t f=Dx f l:=λl e=>by rw[e];rfl
   have r:List.length (List.getD d (Int.toNat t) (ByteArray.empty,[],[],[])).2.2.2<=140737488355328:=(q.1.1.2 _ (AD (d:List HA) RY ((ACK j).2 m))).2.2.2.1;generalize (List.getD d (Int.toNat t) (ByteArray.empty,[],[],[])).2.2.2=l at *;rw[o l rfl];refine AG (ι:={k:Nat//k<=List.length l/\Dx f l=Dx f (l.drop k)}) (λk=>⟨[(2,.p T3 f),(15,.p cJ l),(16,.p (.int .i64) (List.length l:Int)),(17,.p (.int .i64) (k.1:Int))],[]⟩) (λk=>List.length l-k.1) ⟨0,Is _,rfl⟩ (eW []) (λk=>?_)
   ·obtain⟨k,hk,b⟩:=k;have i:=λh:k<List.length l=>Vf f l h;simp only;repeat'(first|exact trivial|refine eS rfl ?_|refine rX a ?_ ?_|refine rC ?_ ?_<;>intro c<;>try(cases c;done))
    ·exact c
    ·refine cP 5 a ?_ ?_
     ·trivial
     ·refine AAI a ?_;refine rL a ?_ ?_
      ·trivial
      ·repeat'(first|exact trivial|refine eS rfl ?_|refine AB ?_|refine rX a ?_ ?_|refine rC ?_ ?_<;>intro c<;>try(cases c;done))
       ·have g:k<List.length l:=by exact eV
        rw[i g,BY c]at b;exact fI a [.tmp 6,.tmp 7] (by rw[b];exact eR)
       ·omega
       ·have g:k<List.length l:=by exact eV
        rw[i g,At c]at b;exact⟨⟨k+1,g,b⟩,by simp only;omega,eW []⟩
    ·have n:List.drop k (l:List (Int×Int))=[]:=IF (by exact eV);rw[n]at b;have b:Dx f l=(0,false):=b;exact fI a [.tmp 6,.tmp 7] (by rw[b];exact eR)
 ·exact eN
 ·exact eN
abbrev EP:=List Int×List Int
def DI (h:AJ) (s:EP) (n t:Int):Option EP :=
 if (CD h (s.1.getD n.toNat 0) t).2=true then some (if (CD h (s.1.getD n.toNat 0) t).1=s.1.getD n.toNat 0 then s else (s.1.set n.toNat (CD h (s.1.getD n.toNat 0) t).1,s.2++[n])) else none
def ED (h:AJ) (s:EP):List (Nat×Obj):=[(1,.box 74 true [.p F7 h,.sr 2 T3 0 s.1.length,.p Es s.2]),(2,.arr 3 T3 s.1)]
theorem d3 (h:AJ) (hk:HO h) (s:EP) {n t:Int} (n0:0<=n) (n1:n<(s.1.length:Int)) (f:0<=s.1.getD n.toNat 0) (Ju:s.1.getD n.toNat 0<(h.1.length:Int)) (k:0<=t) (l:t<(h.1.length:Int)) (i:s.2.length<=1000000000) :
  BA Tryz.prog 72 [.bp 1 [] 0,.p T3 n,.p T3 t] (ED h s) [1]
  (λres d=>(DI h s n t=none/\res=.p .bool false/\d=ED h s)\/∃e,DI h s n t=some e/\res=.p .bool true/\d=ED h e):=by
 obtain⟨ty,w⟩:=s;simp only at n1 f Ju i;have hh:h.1.length<=100000:=Qo hk.2 (by omega);have g:∀x∈h.1,x.2.1.length<=100000:=λx j=>Qo (hk.1.wid x.2.1 (Do.2 ⟨x,j,rfl⟩)) (by omega);refine Jh [0,1,2,6,7,8,26,35] [] [] Tryz.func72 Tryz.ntmps72 (AF sQ AH) ?_;intro w0 K O0 ρ0 c o q;simp only[ED,Aj];repeat'(first|exact trivial|refine eS rfl ?_|refine rX c ?_ ?_|refine rC ?_ ?_<;>intro b<;>try(cases b;done))
 ·exact⟨⟨n0,n1⟩,⟨f,Ju⟩,⟨k,l⟩,hh,g⟩
 ·have a:DI h (ty,w) n t=none:=by unfold DI;rw[At (by simp only;rw[b];simp)]
  refine Ev.ent (σ':=⟨[(6,.p .bool false)],ED h (ty,w)⟩) ?_ (AC [(1,.nm 1),(2,.nm 2)] rfl rfl ?_ ?_)
  ·exact fM c [.tmp 6] (.p .bool false) eT (.inl ⟨a,rfl,rfl⟩)
  ·unfold ED;exact eN
  ·exact eN
 ·exact⟨n0,n1⟩
 ·exact⟨n0,n1⟩
 ·simp only[AO];omega
 ·have a:DI h (ty,w) n t=some (ty.set n.toNat (CD h (ty.getD n.toNat 0) t).1,w++[n]):=by unfold DI;rw[BY (by assumption),At b]
  generalize (CD h (ty.getD n.toNat 0) t).1=m at *;have r:(w++[n]).take (w.length+1)=w++[n]:=An (by simp);refine Gc [61] ?_;refine Ev.ent (σ':=⟨[(6,.p .bool true)],ED h (ty.set n.toNat m,w++[n])⟩) ?_ (AC [(1,.nm 1),(2,.nm 2)] rfl rfl ?_ ?_)
  ·exact fM c [.tmp 6] (.p .bool true) eT (.inr ⟨_,a,rfl,rfl⟩)
  ·unfold ED;simp only[AAD];exact eN
  ·exact eN
 ·have a:DI h (ty,w) n t=some (ty,w):=by unfold DI;rw[BY (by assumption),BY (by simpa using b)]
  refine Ev.ent (σ':=⟨[(6,.p .bool true)],ED h (ty,w)⟩) ?_ (AC [(1,.nm 1),(2,.nm 2)] rfl rfl ?_ ?_)
  ·exact fM c [.tmp 6] (.p .bool true) eT (.inr ⟨_,a,rfl,rfl⟩)
  ·unfold ED;exact eN
  ·exact eN
end
section
def kP:Ae:={ ins:=[T3],pre:=λ_=>True,out:=λ_=>[.p .bool false] }
attribute [local go_sem] kP
def Fu (a b:Int):Int:=if a<b then -1 else if b<a then 1 else 0
def HG:Ae:={ ins:=[T3,T3],pre:=λ_=>True,out:=λ(a,b,_)=>[.p T3 (Fu a b)] }
attribute [local go_sem] HG
def Cy:Ae:={ ins:=[BE,BE],pre:=λ_=>True,out:=λ(a,b,_)=>[.p T3 (Fu (Prod.fst a) (Prod.fst b))] }
attribute [local go_sem] Cy
theorem A1n:Af Tryz.prog 157 kP:=by
 refine fK [0,2] Tryz.func157 Tryz.ntmps157 AH ?_;rintro w0 O0 ⟨x,u⟩ a - -;simp only[kP,AM];repeat'(first|exact trivial|refine eS rfl ?_|refine rX a ?_ ?_)
 exact fI a [.tmp 2]
theorem Gr:Af Tryz.prog 138 HG:=by
 refine fK [0,1,4,5,6,11,12,13,16,19] Tryz.func138 Tryz.ntmps138 (AF A1n AH) ?_;rintro w0 O0 ⟨a,b,u⟩ c - -;simp only[HG,AM];repeat'(first|exact trivial|refine eS rfl ?_|refine rX c ?_ ?_|refine rC ?_ ?_<;>intro d<;>try(cases d;done))
 ·have e:Fu a b=-1:=BY d;exact fI c [.tmp 4] (by rw[e];exact eR)
 ·have e:Fu a b=1:=by unfold Fu;rw[At (by omega),BY d]
  exact fI c [.tmp 4] (by rw[e];exact eR)
 ·have e:Fu a b=0:=by unfold Fu;rw[At (by omega),At (by omega)]
  exact fI c [.tmp 4] (by rw[e];exact eR)
theorem E5:Af Tryz.prog 116 Cy:=by
 refine fK [0,1,2,3,4] Tryz.func116 Tryz.ntmps116 (AF Gr AH) ?_;rintro w0 O0 ⟨a,b,u⟩ c - -;simp only[Cy,AM];repeat'(first|exact trivial|refine eS rfl ?_|refine rX c ?_ ?_)
 exact fI c [.tmp 4]
def kQ (l:List (Int×Int)):Prop:=∀i,i+1<l.length->(l.getD i (0,0)).1<(l.getD (i+1) (0,0)).1
end
end Go.Proofs.YtdapahgnpbehbaaGreat.Fw
