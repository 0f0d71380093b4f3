/- Contracts of the program's and the reference's functions, and the plain laws of what they compute: C1 C2 C9 C10 C11 C12 C13 C3 C4 C5 C6 C7 C8 C14 C15 C16 C17 C18 C19 C20 C21 C22 C23 N1 N2 C24 C25 N3 C26 C27 C28 C29 N4 N5 C30 C31 C32 C33 C34 C35 D1 D4 N6 R07a R07b R07c R07d R07e Sorted R07f R07g R07h R15c P8 G1 G3 PS. -/
import Derived.Test.YtapkhdkbkodbjaaGreatDZJ
set_option linter.unusedVariables false
set_option linter.unusedSimpArgs false
namespace Go.Proofs.YtapkhdkbkodbjaaGreat.Fw
open Go
attribute [local irreducible] Ev
attribute [local go_sem] eZ AM List.toList_toArray Bn evG evK YA Er Ko Gx Fy Hw TB Ns DJ DS My CY DG frz lK Gr DR A4 Fj Bb AV.frz AV.frzs AV.drp AV.drps AV.names AV.namess aq Gu LS Kd UK JR Bc Bg Jr Eb Ir Ec Iu It Iv VJ Ph HJ Kg Fm EW VK Ri qUn Js Iw Ll FJ Dr JU Kh Ed UL DX Ee E9 Rj Ix Nq FW Np Pi Rk Lm JV Ki Ef Ds HT Du Hv DY FA DZ Eg Fs CY Co Pf Rh OO Gp JT JS Ke Pl S9 Nr Lq Lo Kl TA Lp Km Z7 Pn Pm AV.trn AV.trns E3 DI Obj.trn J7 fS Dt Ei EX Eh Ce FB Ap lk HY Gt Hs bin lJ YD lM S7 zP zQ pfs AV.cells CF Jq Pg Kk Pk CT Nn Ty.cell1 Iq E4 Dq GK Mx E2 Kb Lk Rc FU HI Nf UI VI Lj KZ Z5 dY S6 Hr Cp HS RV.flat Ty.flat Ty.size St.add upd del Bd Value.oneCell' Lg Ty.dflt Ip QD H9 QO List.take_succ_cons List.take_zero List.length_cons fF fG QN J4 L6 Hm J5 A2h Fz M9 NA NB NC Rv Rw ND JA Vb Option.map_some Option.map_none Option.bind_some Option.getD_some Option.getD_none Option.isNone_none Option.isNone_some Bool.and_true Bool.true_and Bool.and_false Bool.false_and Bool.not_true Bool.not_false if_true if_false List.length_cons List.length_nil and_true true_and and_self List.all_cons List.all_nil List.append_nil List.nil_append List.cons_append List.getElem?_cons_zero List.getElem?_cons_succ List.getElem?_nil List.map_cons List.map_nil List.set_cons_zero List.set_cons_succ List.isEmpty_nil List.isEmpty_cons decide_true decide_false beq_self_eq_true bne_self_eq_false Nat.zero_add Nat.add_zero Nat.sub_zero Int.toNat_natCast Int.toNat_zero Int.toNat_one List.take_length List.length_append List.length_singleton true_or or_true or_self false_or or_false Ty.agg.injEq Ty.slice.injEq Ty.prod.injEq Ty.int.injEq Option.some.injEq beq_iff_eq L4 evMG evMQ opM IB L2 B4 J0 HK QG Jy IA JB Kx LY Ob Nx Oc UO L3 QI QJ Jz Aa Al Op.operands Call.operands List.filterMap_cons List.filterMap_nil List.append_eq Bool.cond_false_right Bool.cond_true_left cond_true cond_false implies_true decide_eq_true_eq beq_true beq_false Bool.or_true Bool.or_false Bool.true_or Bool.false_or Option.isSome_some Array.empty_append List.append_toArray Fk Mz FC Ht Z6 Pj Fq GU GT Iy Hu Kj Ln YE lL Ik inB Kn Ft Gq Jt Ak fH List.drop_zero Df IC aX CP K5 CN AV.fgt AV.fgts Obj.fgt Ar Aj Aa DL Im BJ Gy List.any_cons List.any_nil mM fJ aY fL L9 R1 qs List.flatMap_cons List.flatMap_nil List.cons_append tn bA HV List.take_succ_cons List.drop_succ_cons bE Ga BA qW NI B8 CO Ad FF Kw Bi FE Dw H7 I9 GY H8
attribute [local go_sem] ty1 ty2 ty3 ty4 ty5 ty9 A62 A63 A64 A65 A66 A67 A68 A69 A6a A6b A6c A6d A6e A6f A6g A6h A6i A6j A6k A6l A6m A6n A6o A6p A6q A6r A6s A6t A6u A6v A6w A6x A6y A6z A6A A6B A6C A6D A6E A6F A6G A6H A6I A6J A6K A6L A6M A6N A6O A6P A6Q A6R A6S A6T A6U A6V A6W A6X A6Y A6Z A70 A71 A72 A73 A74 A75 A76 A77 A78 A79 A7a rF rG rH rI rJ rK rO rQ rR rS rT rU rV rW rZ r7 r8 r9 sC sD sE sF sG sH sI sJ sK sL sM sO sP sQ sR sS sT sU sV sW sY sZ s5 s6 s7 s8 s9 tA tB tC tD tE tF tG tH tI tJ tK tL tM tQ tR tS tT tU tV tW tY tZ t4 t5 t6 t7 t8 t9 uA uB uC uD uE uF uG uH uI uJ uK uL uM uN uP uQ uR uS uT uU uV uW uX uY uZ u3 u4 u5 u6 u7 u9 vC vE vF vG vH vI vJ vL vO vP vQ vS vU vV vW vY vZ v5 v6 v7 v8 v9 wA wB wC wD wF wG wH wI wJ wK wL wM wN wP wQ wR wS wT wU wV wW wX wY wZ w5 w6 w9 xA xB xC xE xF xG xH xI xJ xL xM xN xO
set_option maxRecDepth 100000
set_option maxHeartbeats 4000000
section
def Jc (a b c:Int):Bool:=decide (a<=c)&&decide (c<=b)
def mX:AZ:={ ins:=[.int .u8],pre:=λ_=>True,out:=λ(c,_)=>[.p .bool (Jc 48 57 c)] }
attribute [local go_sem] mX
def mY:AZ:={ ins:=[.int .u8],pre:=λ_=>True,out:=λ(c,_)=>[.p .bool (Jc 65 90 c)] }
attribute [local go_sem] mY
def mZ:AZ:={ ins:=[.int .u8],pre:=λ_=>True,out:=λ(c,_)=>[.p .bool (Jc 97 122 c)] }
attribute [local go_sem] mZ
theorem f8:Af Tryz.prog 242 mX:=by
 refine fK [0,2] Tryz.func242 Tryz.ntmps242 AH ?_;rintro w0 O0 ⟨c,u⟩ a - -;simp only[mX,AM];repeat'(first|exact trivial|apply eS rfl|refine rX a ?_ ?_)
 exact fI a [.tmp 2] (by unfold Jc;exact eR)
theorem A2U:Af Tryz.prog 249 mY:=by
 refine fK [0,2] Tryz.func249 Tryz.ntmps249 AH ?_;rintro w0 O0 ⟨c,u⟩ a - -;simp only[mY,AM];repeat'(first|exact trivial|apply eS rfl|refine rX a ?_ ?_)
 exact fI a [.tmp 2] (by unfold Jc;exact eR)
theorem A2V:Af Tryz.prog 250 mZ:=by
 refine fK [0,2] Tryz.func250 Tryz.ntmps250 AH ?_;rintro w0 O0 ⟨c,u⟩ a - -;simp only[mZ,AM];repeat'(first|exact trivial|apply eS rfl|refine rX a ?_ ?_)
 exact fI a [.tmp 2] (by unfold Jc;exact eR)
def WF (c:Int) (big:Bool):Bool:=Jc 48 57 c||c==45||big&&Jc 65 90 c||!big&&Jc 97 122 c
def A2W:AZ:={ ins:=[.int .u8,.bool],pre:=λ_=>True,out:=λ(c,b,_)=>[.p .bool (WF c b)] }
attribute [local go_sem] A2W
theorem A7c:Af Tryz.prog 243 A2W:=by
 refine fK [0,1,4] Tryz.func243 Tryz.ntmps243 (AF f8 (AF A2U (AF A2V AH))) ?_;rintro w0 O0 ⟨c,b,u⟩ a - -;simp only[A2W,AM];repeat'(first|exact trivial|apply eS rfl|refine rX a ?_ ?_)
 exact fI a [.tmp 4] (by unfold WF;exact eR)
abbrev chr (s:ByteArray) (i:Nat):Int:=((s.data.getD i 0).toNat:Int)
def R7 (s:ByteArray):Bool:=decide ((s.size:Int)<1)||decide (32<(s.size:Int))||Jc 48 57 (chr s 0)||chr s 0==45
def E6 (s:ByteArray) (big:Bool):Bool:=!R7 s&&(List.range s.size).all λi=>WF (chr s i) big
def m8:AZ:={ ins:=[T9,.bool],pre:=λ_=>True,out:=λ(s,b,_)=>[.p .bool (E6 s b)] }
attribute [local go_sem] m8
theorem f9:Af Tryz.prog 231 m8:=by
 refine fK [0,1,4,5,23,27,35] Tryz.func231 Tryz.ntmps231 (AF f8 (AF A7c AH)) ?_;rintro w0 O0 ⟨s,b,u⟩ d - -;simp only[m8,AM];repeat'(first|exact trivial|apply eS rfl|refine rX d ?_ ?_|refine rC ?_ ?_<;>intro a<;>try(cases a;done))
 .constructor
  .intro h;simp only[RH,oN,On]at h;have:1<=(s.size:Int):=by omega
   exact this
  intro h;simp only[RH,oN,On]at h;have:1<=(s.size:Int):=by omega
  exact this
 .have h1:R7 s=true:=by
   unfold R7 chr;simp only[Sx,Do,S1];exact a
  have c:E6 s b=false:=by unfold E6;rw[h1];rfl
  exact fI d [.tmp 4] (by rw[c];exact eR)
 have h1:R7 s=false:=by
  unfold R7 chr;simp only[oN,On,ADF];exact⟨⟨⟨by omega,by omega⟩,a.1.2⟩,a.2⟩
 have g:s.size<=32:=by omega
 refine AK (ι:={k:Nat//k<=s.size/\((List.range k).all λi=>WF (chr s i) b)=true}) (λk=>⟨[(0,.p T9 s),(1,.p .bool b),(5,.p (.int .i64) (k.1:Int))],[]⟩) (λk=>s.size-k.1) ⟨0,by simp⟩ (eW []) (λk=>?_)
 obtain⟨k,hk,f⟩:=k;repeat'(first|exact trivial|apply eS rfl|apply AB|refine rX d ?_ ?_|refine rC ?_ ?_<;>intro a<;>try(cases a;done))
 .exact a
 .have e:k<s.size:=by omega
  have c:E6 s b=false:=by
   unfold E6;rw[AAH];refine .inr (AEb.2 λh=>?_);have:=ON.1 h k (RY.2 e);rw[show WF (chr s k) b=false from a]at this;cases this
  exact fI d [.tmp 4] (by rw[c];exact eR)
 .omega
 .have e:k<s.size:=by omega
  refine⟨⟨k+1,by omega,?_⟩,by simp only;omega,AC [] rfl rfl ?_ ?_⟩
  .rw[S5,AEB,f];rw[AF8,ADS,List.all_nil,Bool.and_true];exact a
  .exact eN
  exact eN
 have e:k=s.size:=by omega
 subst e;have c:E6 s b=true:=by unfold E6;rw[h1,f];rfl
 exact fI d [.tmp 4] (by rw[c];exact eR)
def A2X:AZ:={ ins:=[T9],pre:=λ_=>True,out:=λ(s,_)=>[.p .bool (E6 s false)] }
def WG:AZ:={ ins:=[T9],pre:=λ_=>True,out:=λ(s,_)=>[.p .bool (E6 s true)] }
theorem A7d:Af Tryz.prog 218 A2X:=by
 refine fK [0,2] Tryz.func218 Tryz.ntmps218 (AF f9 AH) ?_;rintro w0 O0 ⟨s,u⟩ a - -;simp only[A2X,AM];repeat'(first|exact trivial|apply eS rfl|refine rX a ?_ ?_)
 exact fI a [.tmp 2]
theorem m9:Af Tryz.prog 217 WG:=by
 refine fK [0,2] Tryz.func217 Tryz.ntmps217 (AF f9 AH) ?_;rintro w0 O0 ⟨s,u⟩ a - -;simp only[WG,AM];repeat'(first|exact trivial|apply eS rfl|refine rX a ?_ ?_)
 exact fI a [.tmp 2]
end
section
theorem NK {α:Type} (l:List α) (d:α) (p:α->Bool) {k:Nat} (h:k<l.length):(l.take (k+1)).any p=((l.take k).any p||p (l.getD k d)):=by
 rw[Au l d h,AEM];simp
theorem JF {α:Type} (l:List α) (d:α) (p:α->Bool) {k:Nat} (h:k<l.length) (hp:p (l.getD k d)=true):l.any p=true :=
 RT.2 ⟨_,AE l d h,hp⟩
def Ae (l:List ByteArray) (s:ByteArray):Bool:=l.any λx=>Ac x s
def Jd:AZ:={ ins:=[GH,T9],pre:=λ_=>True,out:=λ(l,n,_)=>[.p .bool (Ae l n)],lend:=true }
attribute [local go_sem] Jd
theorem G7:Af Tryz.prog 201 Jd:=by
 refine fK [0,1,4,5,9,17] Tryz.func201 Tryz.ntmps201 AH ?_;rintro w0 O0 ⟨l,n,u⟩ a ⟨⟨hl,-⟩,-⟩ -;simp only[AO]at hl;simp only[Jd,AM];repeat'(first|exact trivial|apply eS rfl|refine rX a ?_ ?_)
 refine AK (ι:={k:Nat//k<=l.length/\(l.take k).any (λx=>Ac x n)=false}) (λk=>⟨[(0,.p GH l),(1,.p T9 n),(5,.p (.int .i64) (k.1:Int))],[]⟩) (λk=>l.length-k.1) ⟨0,by simp⟩ (eW []) (λk=>?_)
 obtain⟨k,hk,c⟩:=k;repeat'(first|exact trivial|apply eS rfl|apply AB|refine rX a ?_ ?_|refine rC ?_ ?_<;>intro b<;>try(cases b;done))
 .exact eV
 .have d:k<l.length:=by exact eV
  have h1:Ae l n=true:=JF l ByteArray.empty _ d b;exact fI a [.tmp 4] (by rw[h1];exact eR)
 .exact eV
 .have d:k<l.length:=by exact eV
  refine⟨⟨k+1,by exact eV,?_⟩,by simp only;exact eV,AC [] rfl rfl ?_ ?_⟩
  .rw[NK l ByteArray.empty _ d,c];exact b
  .exact eN
  exact eN
 have hk:l.take k=l:=At (by exact eV);rw[hk]at c;have h1:Ae l n=false:=c;exact fI a [.tmp 4] (by rw[h1];exact eR)
def YB (l:List ByteArray) (s:ByteArray):Nat:=(l.takeWhile λx=>Cf x s).length
theorem nA {α:Type} (p:α->Bool) (d:α):∀(l:List α) (k:Nat),k<=(l.takeWhile p).length->((k<l.length/\p (l.getD k d)=true)↔k+1<=(l.takeWhile p).length)
 | [],k,h=>by simp
 | x :: l,k,h=>by
  by_cases hx:p x=true
  .rw[List.takeWhile_cons,BY hx]at h ⊢;cases k with
   | zero=>simp[hx]
   | succ k =>
    have:=nA p d l k (by simpa using h);simpa using this
  rw[List.takeWhile_cons,As hx]at h ⊢;have hk:k=0:=by simpa using h
  subst hk;simp[hx]
theorem A8O {α:Type} (p:α->Bool) (l:List α):(l.takeWhile p).length<=l.length:=(List.takeWhile_sublist p).length_le
def Dx (l:List ByteArray) (s:ByteArray):List ByteArray :=
 if (decide (YB l s<l.length)&&Ac (l.getD (YB l s) ByteArray.empty) s)=true then l else l.take (YB l s)++[s]++l.drop (YB l s)
def bH:AZ:={ ins:=[GH,T9],pre:=λ(l,_,_)=>List.length l<=100000,out:=λ(l,n,_)=>[.p GH (Dx l n)] }
attribute [local go_sem] bH
theorem R8:Af Tryz.prog 194 bH:=by
 refine fK [0,1,4,5,6,18,32] Tryz.func194 Tryz.ntmps194 AH ?_;rintro w0 O0 ⟨l,n,u⟩ c-hl;have hl:l.length<=100000:=hl;simp only[bH,AM];repeat'(first|exact trivial|apply eS rfl|refine rX c ?_ ?_)
 refine AK (ι:={k:Nat//k<=YB l n}) (λk=>⟨[(0,.p GH l),(1,.p T9 n),(5,.raw (.slice none 0 0)),(6,.p (.int .i64) (k.1:Int))],[]⟩) (λk=>l.length-k.1) ⟨0,by simp⟩ (eW []) (λk=>?_)
 obtain⟨k,hk⟩:=k;have d:=A8O (λx=>Cf x n) l;have i:=nA (λx=>Cf x n) ByteArray.empty l k hk;simp only;repeat'(first|exact trivial|apply eS rfl|apply AB|refine rX c ?_ ?_|refine rC ?_ ?_<;>intro a<;>try(cases a;done))
 .exact λh=>h
 .have h1:k<l.length/\Cf (l.getD k ByteArray.empty) n=true:=⟨by exact eV,a.2⟩;exact eV
 .have h1:k<l.length/\Cf (l.getD k ByteArray.empty) n=true:=⟨by exact eV,a.2⟩;exact⟨⟨k+1,i.1 h1⟩,by simp only;omega,eW []⟩
 .exact λh=>h
 .rename_i f;have g:k=YB l n:=by
   refine ADO hk (Nat.le_of_not_lt λh=>?_);have:=i.2 h;rw[f (IN.2 this.1)]at this;cases this.2
  have e:Dx l n=l:=by
   unfold Dx;rw[<-g,BY];rw[An,Do];exact⟨IN.1 a.1,a.2⟩
  exact fI c [.tmp 4] (by rw[e];exact eR)
 .have j:=tO k l;have b:k<=l.length:=RG hk d;simp only[AO];exact⟨RJ.2 b,by dsimp only[Ty.den]at *;omega⟩
 .have j:=tO k l;have b:k<=l.length:=RG hk d;simp only[AO];dsimp only[Ty.den]at *;omega
 .have j:=tO k l;have b:k<=l.length:=RG hk d;have o:(l.drop k).length<=l.length:=by rw[S0];omega
  simp only[AO];exact⟨RJ.2 b,by dsimp only[Ty.den]at *;omega⟩
 rename_i f;have g:k=YB l n:=by
  refine ADO hk (Nat.le_of_not_lt λh=>?_);have:=i.2 h;rw[f (IN.2 this.1)]at this;cases this.2
 have e:Dx l n=l.take k++[n]++l.drop k:=by
  unfold Dx;rw[<-g,As];rw[An,Do];intro h;rw[a (IN.2 h.1)]at h;cases h.2
 have b:k<=l.length:=RG hk d;have m:(l.take k).length+1+(l.drop k).length=(l.take k++[n]++l.drop k).length:=by simp only[By,IS]
 rw[m,<-e];refine F0 [38] ?_;exact fI c [.tmp 4]
end
section
def GL (b:List Int) (i:Int):Int:=if i<b.length then b.getD i.toNat 0 else 0
def gB:AZ:={ ins:=[BG,T3],pre:=λ(_,i,_)=>(0:Int)<=i,out:=λ(b,i,_)=>[.p QU (GL b i)],lend:=true }
attribute [local go_sem] gB
theorem xR:Af Tryz.prog 154 gB:=by
 refine fK [0,1,4,8] Tryz.func154 Tryz.ntmps154 AH ?_;rintro w0 O0 ⟨b,i,u⟩ c-hi;simp only[gB,AM];repeat'(first|exact trivial|apply eS rfl|refine rX c ?_ ?_|refine rC ?_ ?_<;>intro a<;>try(cases a;done))
 .exact⟨hi,a⟩
 .have h1:GL b i=b.getD i.toNat 0:=by unfold GL;rw[BY a]
  exact fI c [.tmp 4] (by rw[h1];exact eR)
 have h1:GL b i=0:=by unfold GL;rw[As (AE3.2 a)]
 exact fI c [.tmp 4] (by rw[h1];exact eR)
def Cs (b:List Int):Nat->Nat
 | 0=>0
 | n+1=>if b.getD n 0=0 then Cs b n else n+1
def BM (b:List Int):List Int:=b.take (Cs b b.length)
theorem WH (b:List Int):∀n,Cs b n<=n
 | 0=>If _
 | n+1=>by
  unfold Cs;split
  .exact Nat.le_succ_of_le (WH b n)
  exact If _
def K7:AZ:={ ins:=[BG],pre:=λ(b,_)=>List.length b<=100000,out:=λ(b,_)=>[.p BG (BM b)] }
attribute [local go_sem] K7
theorem NL:Af Tryz.prog 155 K7:=by
 refine fK [0,2,3,15] Tryz.func155 Tryz.ntmps155 AH ?_;rintro w0 O0 ⟨b,u⟩ d-f;have f:b.length<=100000:=f;simp only[K7,AM];repeat'(first|exact trivial|apply eS rfl|refine rX d ?_ ?_)
 refine AK (ι:={n:Nat//n<=b.length/\Cs b n=Cs b b.length}) (λn=>⟨[(0,.p BG b),(3,.p (.int .i64) (n.1:Int))],[]⟩) (λn=>n.1) ⟨b.length,If _,rfl⟩ (eW []) (λn=>?_)
 obtain⟨n,hn,g⟩:=n;simp only;repeat'(first|apply eS rfl|apply AB|refine rX d ?_ ?_|refine rC ?_ ?_<;>intro c<;>try(cases c;done))
 .constructor
  .exact eV
  intro h;refine⟨?_,?_⟩<;>exact eV
 .exact eV
 .obtain⟨h1,a⟩:=c;obtain⟨m,rfl⟩:∃m,n=m+1:=⟨n-1,by omega⟩;have e:(((m+1:Nat):Int)-1)=(m:Int):=by omega
  rw[e]at a;have a:b.getD m 0=0:=a;have j:Cs b m=Cs b b.length:=by
   rw[<-g];show _=if b.getD m 0=0 then Cs b m else m+1
   rw[BY a]
  refine⟨⟨m,by omega,j⟩,by simp,AC [] rfl rfl ?_ ?_⟩
  .exact eN
  simp only[e];exact eN
 .have k:=tO n b;simp only[AO];exact⟨RJ.2 hn,by dsimp only[Ty.den]at *;omega⟩
 have i:Cs b n=n:=by
  cases n with
  | zero=>rfl
  | succ m =>
   have e:(((m+1:Nat):Int)-1)=(m:Int):=by omega
   rw[e]at c;have a:=c (by omega);have a:¬b.getD m 0=0:=a;show (if b.getD m 0=0 then Cs b m else m+1)=m+1;rw[As a]
 have h1:BM b=b.take n:=by unfold BM;rw[<-g,i]
 rw[<-h1];refine F0 [18] ?_;exact fI d [.tmp 2]
end
section
attribute [local go_sem] gB K7
def A2Y (w:Int) (r:Int):Bool:=B6 .and .u64 (YC .u64 w r) 1==1
def WI (b:List Int) (i:Int):Bool:=if (decide (i<0)||decide ((b.length:Int)<=i.tdiv 64))=true then false else A2Y (b.getD (i.tdiv 64).toNat 0) (i.tmod 64)
def A2Z:AZ:={ ins:=[BG,T3],pre:=λ_=>True,out:=λ(b,i,_)=>[.p .bool (WI b i)],lend:=true }
theorem A9B {w:Int} (h0:0<=w) (r:Int):0<=YC .u64 w r/\YC .u64 w r<=w:=by
 unfold YC;have hp:(0:Int)<2 ^ (min r.toNat IntKind.u64.bits):=Int.pow_pos (by decide);rw[Int.fdiv_eq_ediv_of_nonneg _ (Int.le_of_lt hp)];exact⟨Int.ediv_nonneg h0 (Int.le_of_lt hp),Int.ediv_le_self _ h0⟩
theorem A30:Af Tryz.prog 205 A2Z:=by
 refine fK [0,1,4,13] Tryz.func205 Tryz.ntmps205 AH ?_;rintro w0 O0 ⟨b,i,u⟩ c ⟨⟨k,g⟩,d,-⟩ -;have d:KW .i64 i:=d;rw[ND]at d;have f:0<=i->Int.tdiv i 64=i / 64/\Int.tmod i 64=i % 64:=λh=>⟨AAd h,AEp h⟩;simp only[A2Z,AM];repeat'(first|exact trivial|apply eS rfl|refine rX c ?_ ?_|refine rC ?_ ?_<;>intro a<;>try(cases a;done))
 .intro h;have h0:0<=i:=by simpa using h
  obtain⟨e1,e2⟩:=f h0;rw[e1];refine⟨by decide,?_,?_⟩<;>exact eV
 .have h1:WI b i=false:=by
   unfold WI;rw[BY];rw[Sx,Do,Do];exact a
  exact fI c [.tmp 4] (by rw[h1];exact eR)
 .obtain⟨h0,j⟩:=a;obtain⟨e1,e2⟩:=f h0;rw[e1]at j;have e:KW .u64 (b.getD (i / 64).toNat 0):=g _ (AE b 0 (by exact eV));rw[JA]at e;have hs:=A9B e.1 (i % 64);rw[e1,e2];refine⟨⟨by decide,by exact eV,by exact eV⟩,⟨by exact eV,by exact eV⟩,⟨by decide,by exact eV,by exact eV⟩,⟨by exact eV,by exact eV⟩,by exact eV,hs.1,ADL hs.2 e.2⟩
 have h1:WI b i=A2Y (b.getD (i.tdiv 64).toNat 0) (i.tmod 64):=by
  unfold WI;rw[As];rw[Sx,Do,Do];rintro (h|h)<;>omega
 exact fI c [.tmp 4] (by rw[h1];unfold A2Y;exact eR)
end
section
attribute [local go_sem] gB K7
def Gb (op:BinOp) (a b:List Int) (n:Nat):List Int:=(List.range n).map λi=>B6 op .u64 (a.getD i 0) (GL b (i:Int))
theorem El (op:BinOp) (a b:List Int) (n:Nat):(Gb op a b n).length=n:=by simp[Gb]
theorem Y0 (op:BinOp) (a b:List Int) (n:Nat):Gb op a b (n+1)=Gb op a b n++[B6 op .u64 (a.getD n 0) (GL b (n:Int))]:=by simp[Gb,S5]
def GJ (a b:List Int):List Int:=BM (Gb .and a b a.length)
def A31:AZ:={ ins:=[BG,BG],pre:=λ(a,_,_)=>List.length a<=100000,out:=λ(a,b,_)=>[.p BG (GJ a b)] }
theorem nB:Af Tryz.prog 116 A31:=by
 refine fK [0,1,4,5,6,10] Tryz.func116 Tryz.ntmps116 (AF xR (AF NL AH)) ?_;rintro w0 O0 ⟨a,b,u⟩ c-ha;have ha:a.length<=100000:=ha;simp only[A31,AM];repeat'(first|exact trivial|apply eS rfl|refine rX c ?_ ?_)
 refine AK (ι:={n:Nat//n<=a.length}) (λn=>⟨[(0,.p BG a),(1,.p BG b),(5,.sr 23 QU 0 n.1),(6,.p (.int .i64) (n.1:Int))],[(23,.arr 186 QU (Gb .and a b n.1))]⟩) (λn=>a.length-n.1) ⟨0,NO _⟩ (AC [(23,.nil)] rfl rfl ?_ ?_) (λn=>?_)
 .refine eM ?_;rfl
 .exact eN
 obtain⟨n,hn⟩:=n;have g:=El .and a b n;have hs:=Y0 .and a b n;simp only;repeat'(first|exact trivial|apply eS rfl|apply AB|refine rX c ?_ ?_|refine rC ?_ ?_<;>intro d<;>try(cases d;done))
 .refine⟨d,?_⟩;simp only[AO];dsimp only[Ty.den]at *;omega
 .exact eV
 .have e:n<a.length:=by exact eV
  refine⟨⟨n+1,by omega⟩,by simp only;omega,AC [(23,.nm 23)] rfl rfl ?_ ?_⟩
  .simp only[hs];refine eM ?_;rw[At (by rw[g];exact If _)]
  exact eN
 have e:n=a.length:=by exact eV
 subst e;refine F0 [23] ?_;have f:(Gb .and a b a.length).take a.length=Gb .and a b a.length:=At (by rw[El];exact If _);repeat'(first|apply eS rfl|refine rX c ?_ ?_)
 .rw[f,El];exact ha
 rw[f];exact fI c [.tmp 4] (by unfold GJ;exact eR)
def R9 (a b:List Int):List Int:=BM (Gb .andNot a b a.length)
def nC:AZ:={ ins:=[BG,BG],pre:=λ(a,_,_)=>List.length a<=100000,out:=λ(a,b,_)=>[.p BG (R9 a b)] }
attribute [local go_sem] nC
theorem A32:Af Tryz.prog 188 nC:=by
 refine fK [0,1,4,5,6,10] Tryz.func188 Tryz.ntmps188 (AF xR (AF NL AH)) ?_;rintro w0 O0 ⟨a,b,u⟩ c-ha;have ha:a.length<=100000:=ha;simp only[nC,AM];repeat'(first|exact trivial|apply eS rfl|refine rX c ?_ ?_)
 refine AK (ι:={n:Nat//n<=a.length}) (λn=>⟨[(0,.p BG a),(1,.p BG b),(5,.sr 23 QU 0 n.1),(6,.p (.int .i64) (n.1:Int))],[(23,.arr 186 QU (Gb .andNot a b n.1))]⟩) (λn=>a.length-n.1) ⟨0,NO _⟩ (AC [(23,.nil)] rfl rfl ?_ ?_) (λn=>?_)
 .refine eM ?_;rfl
 .exact eN
 obtain⟨n,hn⟩:=n;have g:=El .andNot a b n;have hs:=Y0 .andNot a b n;simp only;repeat'(first|exact trivial|apply eS rfl|apply AB|refine rX c ?_ ?_|refine rC ?_ ?_<;>intro d<;>try(cases d;done))
 .refine⟨d,?_⟩;simp only[AO];dsimp only[Ty.den]at *;omega
 .exact eV
 .have e:n<a.length:=by exact eV
  refine⟨⟨n+1,by omega⟩,by simp only;omega,AC [(23,.nm 23)] rfl rfl ?_ ?_⟩
  .simp only[hs];refine eM ?_;rw[At (by rw[g];exact If _)]
  exact eN
 have e:n=a.length:=by exact eV
 subst e;refine F0 [23] ?_;have f:(Gb .andNot a b a.length).take a.length=Gb .andNot a b a.length:=At (by rw[El];exact If _);repeat'(first|apply eS rfl|refine rX c ?_ ?_)
 .rw[f,El];exact ha
 rw[f];exact fI c [.tmp 4] (by unfold R9;exact eR)
def Eu (a b:List Int):Bool:=((R9 a b).length:Int)==0
def QV:AZ:={ ins:=[BG,BG],pre:=λ(a,_,_)=>List.length a<=100000,out:=λ(a,b,_)=>[.p .bool (Eu a b)],lend:=true }
attribute [local go_sem] QV
theorem SA:Af Tryz.prog 147 QV:=by
 refine fK [0,1,4] Tryz.func147 Tryz.ntmps147 (AF A32 AH) ?_;rintro w0 O0 ⟨a,b,u⟩ c-ha;have ha:a.length<=100000:=ha;simp only[QV,AM];repeat'(first|exact trivial|apply eS rfl|refine rX c ?_ ?_)
 .exact ha
 exact fI c [.tmp 4] (by unfold Eu;exact eR)
def F2 (a b:List Int):Bool:=Eu a b&&Eu b a
def bI:AZ:={ ins:=[BG,BG],pre:=λ(a,b,_)=>List.length a<=100000/\List.length b<=100000,out:=λ(a,b,_)=>[.p .bool (F2 a b)],lend:=true }
theorem A0k:Af Tryz.prog 204 bI:=by
 refine fK [0,1,4] Tryz.func204 Tryz.ntmps204 (AF SA AH) ?_;rintro w0 O0 ⟨a,b,u⟩ c-⟨ha,d⟩;simp only[bI,AM];repeat'(first|exact trivial|apply eS rfl|refine rX c ?_ ?_)
 .exact⟨ha,λ_=>d⟩
 exact fI c [.tmp 4] (by unfold F2;exact eR)
end
section
attribute [local go_sem] A2Z
def IJ (a b:List Int):Bool:=decide (a=b)
def WJ:AZ:={ ins:=[BG,BG],pre:=λ_=>True,out:=λ(a,b,_)=>[.p .bool (IJ a b)],lend:=true }
theorem bJ:Af Tryz.prog 153 WJ:=by
 refine fK [0,1,4,5,10,14,25] Tryz.func153 Tryz.ntmps153 AH ?_;rintro w0 O0 ⟨a,b,u⟩ d ⟨⟨ha,-⟩,-⟩ -;simp only[AO]at ha;simp only[WJ,AM];repeat'(first|exact trivial|apply eS rfl|refine rX d ?_ ?_|refine rC ?_ ?_<;>intro c<;>try(cases c;done))
 .have h1:IJ a b=false:=by
   unfold IJ;rw[On];rintro rfl;exact c rfl
  exact fI d [.tmp 4] (by rw[h1];exact eR)
 have f:a.length=b.length:=by
  have:(a.length:Int)=(b.length:Int):=by simpa using c
  exact Int.ofNat_inj.1 this
 refine AK (ι:={k:Nat//k<=a.length/\a.take k=b.take k}) (λk=>⟨[(0,.p BG a),(1,.p BG b),(5,.p (.int .i64) (k.1:Int))],[]⟩) (λk=>a.length-k.1) ⟨0,NO _,rfl⟩ (eW []) (λk=>?_)
 obtain⟨k,hk,hf⟩:=k;simp only;repeat'(first|exact trivial|apply eS rfl|apply AB|refine rX d ?_ ?_|refine rC ?_ ?_<;>intro c<;>try(cases c;done))
 .exact⟨c,by rw[<-f];exact c⟩
 .have e:k<a.length:=by exact eV
  have h1:IJ a b=false:=by
   unfold IJ;rw[On];rintro rfl;exact c rfl
  exact fI d [.tmp 4] (by rw[h1];exact eR)
 .exact eV
 .have e:k<a.length:=by exact eV
  have g:a.getD k 0=b.getD k 0:=by simpa using c
  refine⟨⟨k+1,by omega,?_⟩,by simp only;omega,AC [] rfl rfl ?_ ?_⟩
  .rw[Au a 0 e,Au b 0 (by omega),hf];rw[show a.getD k 0=b.getD k 0 from g]
  .exact eN
  exact eN
 have e:k=a.length:=by exact eV
 subst e;rw[RD,f,RD]at hf;have h1:IJ a b=true:=by unfold IJ;rw[hf];simp
 exact fI d [.tmp 4] (by rw[h1];exact eR)
end
section
attribute [local go_sem] A2Z
def OB (b:List Int) (n:Nat):List Int:=((List.range n).filter λ(i:Nat)=>WI b (i:Int)).map λ(i:Nat)=>(i:Int)
def IK (b:List Int):List Int:=OB b (64*b.length)
theorem nD (b:List Int) (n:Nat):OB b (n+1)=OB b n++if WI b (n:Int)=true then [(n:Int)] else []:=by
 unfold OB;rw[S5,AEJ,Sw]
 congr 1
 rw[AAf,AEW];split<;>rfl
theorem A0l (b:List Int) (n:Nat):(OB b n).length<=n:=by
 unfold OB;rw[OR];exact RG (AAw _ _) (by simp)
def A33:AZ:={ ins:=[BG],pre:=λ(b,_)=>List.length b<=100000,out:=λ(b,_)=>[.p F1 (IK b)] }
attribute [local go_sem] A33
theorem A7e:Af Tryz.prog 223 A33:=by
 refine fK [0,2,3,4,9,14] Tryz.func223 Tryz.ntmps223 (AF A30 AH) ?_;rintro w0 O0 ⟨b,u⟩ c-e;have e:b.length<=100000:=e;simp only[A33,AM];repeat'(first|exact trivial|apply eS rfl|refine rX c ?_ ?_)
 refine AK (ι:={n:Nat//n<=64*b.length}) (λn=>⟨[(0,.p BG b),(3,.sr 18 T3 0 (OB b n.1).length),(4,.p (.int .i64) (n.1:Int))],[(18,.arr 3 T3 (OB b n.1))]⟩) (λn=>64*b.length-n.1) ⟨0,NO _⟩ (AC [(18,.nil)] rfl rfl ?_ ?_) (λn=>?_)
 .refine eM ?_;rfl
 .refine eM ?_;rfl
 obtain⟨n,hn⟩:=n;have f:=A0l b n;have hs:=nD b n;simp only;repeat'(first|exact trivial|apply eS rfl|apply AB|refine rX c ?_ ?_|refine rC ?_ ?_<;>intro a<;>try(cases a;done))
 .exact eV
 .rw[a,BY rfl]at hs;simp only[AO];dsimp only[Ty.den]at *;omega
 .exact eV
 .have d:n<64*b.length:=by exact eV
  rw[a,BY rfl]at hs;refine⟨⟨n+1,by omega⟩,by simp only;omega,AC [(18,.nm 18)] rfl rfl ?_ ?_⟩
  .simp only[hs];exact eN
  simp only[hs];exact eN
 .exact eV
 .have d:n<64*b.length:=by exact eV
  rw[a,As (by simp),Ra]at hs;refine⟨⟨n+1,by omega⟩,by simp only;omega,AC [(18,.nm 18)] rfl rfl ?_ ?_⟩
  .simp only[hs];exact eN
  simp only[hs];exact eN
 have d:n=64*b.length:=by exact eV
 subst d;refine F0 [18] ?_;exact fI c [.tmp 2] (by unfold IK;exact eR)
def nE:AZ:={ ins:=[BG],pre:=λ(b,_)=>List.length b<=100000,out:=λ(b,_)=>[.p T3 ((IK b).length:Int)],lend:=true }
theorem A34:Af Tryz.prog 207 nE:=by
 refine fK [0,2] Tryz.func207 Tryz.ntmps207 (AF A7e AH) ?_;rintro w0 O0 ⟨b,u⟩ a-c;simp only[nE,AM];repeat'(first|exact trivial|apply eS rfl|refine rX a ?_ ?_)
 .exact c
 exact fI a [.tmp 2]
end
section
attribute [local go_sem] Jd A2X
abbrev AJ:=ByteArray×List ByteArray×List (ByteArray×ByteArray)
abbrev d0:AJ:=(ByteArray.empty,[],[])
def Ct (s:ByteArray):Nat->List AJ->Int
 | _,[]=>-1
 | k,x :: l=>if Ac x.1 s=true then (k:Int) else Ct s (k+1) l
def BH (l:List AJ) (s:ByteArray):Int:=Ct s 0 l
theorem Td (s:ByteArray) (l:List AJ) {k:Nat} (h:k<l.length):Ct s k (l.drop k)=if Ac (l.getD k d0).1 s=true then (k:Int) else Ct s (k+1) (l.drop (k+1)):=by
 rw[Of h];have e:l.getD k d0=l[k]:=by simp[AS,h]
 rw[e];rfl
def Ol:AZ:={ ins:=[E8,T9],pre:=λ_=>True,out:=λ(l,s,_)=>[.p T3 (BH l s)] }
attribute [local go_sem] Ol
theorem ME:Af Tryz.prog 219 Ol:=by
 refine fK [0,1,4,5,9,18] Tryz.func219 Tryz.ntmps219 AH ?_;rintro w0 O0 ⟨l,s,u⟩ c ⟨⟨hl,-⟩,-⟩ -;simp only[AO]at hl;simp only[Ol,AM];repeat'(first|exact trivial|apply eS rfl|refine rX c ?_ ?_)
 refine AK (ι:={k:Nat//k<=l.length/\Ct s k (l.drop k)=BH l s}) (λk=>⟨[(0,.p E8 l),(1,.p T9 s),(5,.p (.int .i64) (k.1:Int))],[]⟩) (λk=>l.length-k.1) ⟨0,NO _,rfl⟩ (eW []) (λk=>?_)
 obtain⟨k,hk,hf⟩:=k;simp only;repeat'(first|exact trivial|apply eS rfl|apply AB|refine rX c ?_ ?_|refine rC ?_ ?_<;>intro b<;>try(cases b;done))
 .exact b
 .have a:k<l.length:=by exact eV
  rw[Td s l a,BY b]at hf;exact fI c [.tmp 4] (by rw[<-hf];exact eR)
 .exact eV
 .have a:k<l.length:=by exact eV
  rw[Td s l a,As (by rw[b];simp)]at hf;exact⟨⟨k+1,by omega,hf⟩,by simp only;omega,eW []⟩
 have a:l.drop k=[]:=RC (by exact eV);rw[a]at hf;exact fI c [.tmp 4] (by rw[<-hf];first|exact eR|refine Yw ?_;rfl)
def MF:List AJ->Int
 | []=>0
 | x :: l=>if 256<x.2.1.length\/256<x.2.2.length then 7 else MF l
def E7 (l:List AJ):Int:=if 256<l.length then 7 else MF l
theorem Te (l:List AJ) {k:Nat} (h:k<l.length):MF (l.drop k)=if 256<(l.getD k d0).2.1.length\/256<(l.getD k d0).2.2.length then 7 else MF (l.drop (k+1)):=by
 rw[Of h];have e:l.getD k d0=l[k]:=by simp[AS,h]
 rw[e];rfl
def bK:AZ:={ ins:=[E8],pre:=λ_=>True,out:=λ(l,_)=>[.p GI (E7 l)] }
attribute [local go_sem] bK
theorem A35:Af Tryz.prog 196 bK:=by
 refine fK [0,2,3,6,10,28] Tryz.func196 Tryz.ntmps196 AH ?_;rintro w0 O0 ⟨l,u⟩ b ⟨⟨hl,-⟩,-⟩ -;simp only[AO]at hl;simp only[bK,AM];repeat'(first|exact trivial|apply eS rfl|refine rX b ?_ ?_|refine rC ?_ ?_<;>intro a<;>try(cases a;done))
 .have h1:E7 l=7:=by unfold E7;rw[BY (by exact eV)]
  exact fI b [.tmp 2] (by rw[h1];exact eR)
 have h1:E7 l=MF l:=by unfold E7;rw[As (by exact eV)]
 refine AK (ι:={k:Nat//k<=l.length/\MF (l.drop k)=E7 l}) (λk=>⟨[(0,.p E8 l),(3,.p (.int .i64) (k.1:Int))],[]⟩) (λk=>l.length-k.1) ⟨0,NO _,h1.symm⟩ (eW []) (λk=>?_)
 obtain⟨k,hk,hf⟩:=k;simp only;repeat'(first|exact trivial|apply eS rfl|apply AB|refine rX b ?_ ?_|refine rC ?_ ?_<;>intro a<;>try(cases a;done))
 .exact⟨a,λ_=>a⟩
 .have c:k<l.length:=by exact eV
  rw[Te l c,BY (by
   rcases a with h|h
   .exact .inl (IN.1 h)
   exact .inr (IN.1 h))]at hf
  exact fI b [.tmp 2] (by rw[<-hf];exact eR)
 .exact eV
 .have c:k<l.length:=by exact eV
  rw[Te l c,As (by
   rintro (h|h)
   .have:=RJ.1 a.1;exact absurd h (Nat.not_lt.2 this)
   have:=RJ.1 a.2;exact absurd h (Nat.not_lt.2 this))]at hf
  exact⟨⟨k+1,by omega,hf⟩,by simp only;omega,eW []⟩
 have c:l.drop k=[]:=RC (by exact eV);rw[c]at hf;exact fI b [.tmp 2] (by rw[<-hf];first|exact eR|refine Yw ?_;rfl)
theorem KB {α:Type} (l:List α) (d:α) (p:α->Bool) {k:Nat} (h:k<l.length):(l.take (k+1)).all p=((l.take k).all p&&p (l.getD k d)):=by
 rw[Au l d h,AEB];simp
def Je (x:AJ) (done:List ByteArray):Bool:=x.2.1.all λs=>Ae done s
def bL:AZ:={ ins:=[A0h,GH],pre:=λ_=>True,out:=λ(x,l,_)=>[.p .bool (Je x l)],lend:=true }
attribute [local go_sem] bL
theorem A36:Af Tryz.prog 220 bL:=by
 refine fK [0,1,2,4,5,10,20] Tryz.func220 Tryz.ntmps220 (AF G7 AH) ?_;rintro w0 O0 ⟨⟨nm,sup,d⟩,l,u⟩ c ⟨⟨-,⟨e,-⟩,-⟩,-⟩ -;simp only[AO]at e;simp only[bL,AM];repeat'(first|exact trivial|apply eS rfl|refine rX c ?_ ?_)
 refine AK (ι:={k:Nat//k<=sup.length/\(sup.take k).all (λs=>Ae l s)=true}) (λk=>⟨[(1,.p GH l),(2,.bp 2 [] 0),(5,.p (.int .i64) (k.1:Int))],[(2,.box 158 true [.p T9 nm,.p GH sup,.p fZ d])]⟩) (λk=>sup.length-k.1) ⟨0,by simp⟩ (eW [(2,.nm 2)]) (λk=>?_)
 obtain⟨k,hk,hf⟩:=k;simp only;repeat'(first|exact trivial|apply eS rfl|apply AB|refine rX c ?_ ?_|refine rC ?_ ?_<;>intro b<;>try(cases b;done))
 .exact b
 .have a:k<sup.length:=by exact eV
  have h1:Je (nm,sup,d) l=false:=by
   unfold Je;refine AEb.2 λh=>?_;have:=ON.1 h _ (AE sup ByteArray.empty a);rw[b]at this;cases this
  exact fI c [.tmp 4] (by rw[h1];exact eR)
 .have:=e;exact eV
 .have a:k<sup.length:=by exact eV
  refine⟨⟨k+1,by omega,?_⟩,by simp only;omega,AC [(2,.nm 2)] rfl rfl ?_ ?_⟩
  .rw[KB sup ByteArray.empty _ a,hf];exact b
  .exact eN
  exact eN
 have a:sup.take k=sup:=At (by exact eV);rw[a]at hf;have h1:Je (nm,sup,d) l=true:=hf;exact fI c [.tmp 4] (by rw[h1];exact eR)
def Om (d:List AJ):Nat->List AJ->Int
 | _,[]=>0
 | k,x :: l=>if E6 x.1 false=false then 1 else if BH d x.1<(k:Int) then 4 else Om d (k+1) l
def Dy (d:List AJ):Int:=Om d 0 d
theorem MG (d l:List AJ) {k:Nat} (h:k<l.length):Om d k (l.drop k)=if E6 (l.getD k d0).1 false=false then 1 else if BH d (l.getD k d0).1<(k:Int) then 4 else Om d (k+1) (l.drop (k+1)):=by
 rw[Of h];have e:l.getD k d0=l[k]:=by simp[AS,h]
 rw[e];rfl
def bM:AZ:={ ins:=[E8],pre:=λ_=>True,out:=λ(l,_)=>[.p GI (Dy l)] }
attribute [local go_sem] bM
theorem A37:Af Tryz.prog 197 bM:=by
 refine fK [0,2,3,7,16,25] Tryz.func197 Tryz.ntmps197 (AF A7d (AF ME AH)) ?_;rintro w0 O0 ⟨l,u⟩ c ⟨⟨hl,-⟩,-⟩ -;simp only[AO]at hl;simp only[bM,AM];repeat'(first|exact trivial|apply eS rfl|refine rX c ?_ ?_)
 refine AK (ι:={k:Nat//k<=l.length/\Om l k (l.drop k)=Dy l}) (λk=>⟨[(0,.p E8 l),(3,.p (.int .i64) (k.1:Int))],[]⟩) (λk=>l.length-k.1) ⟨0,NO _,rfl⟩ (eW []) (λk=>?_)
 obtain⟨k,hk,hf⟩:=k;simp only;repeat'(first|exact trivial|apply eS rfl|apply AB|refine rX c ?_ ?_|refine rC ?_ ?_<;>intro b<;>try(cases b;done))
 .exact b
 .have a:k<l.length:=by exact eV
  rw[MG l l a,BY b]at hf;exact fI c [.tmp 2] (by rw[<-hf];exact eR)
 .assumption
 .rename_i d;have a:k<l.length:=by exact eV
  rw[MG l l a,As (by rw[d];simp),BY b]at hf;exact fI c [.tmp 2] (by rw[<-hf];exact eR)
 .exact eV
 .rename_i d;have a:k<l.length:=by exact eV
  rw[MG l l a,As (by rw[d];simp),As (AE3.2 b)]at hf;exact⟨⟨k+1,by omega,hf⟩,by simp only;omega,eW []⟩
 have a:l.drop k=[]:=RC (by exact eV);rw[a]at hf;exact fI c [.tmp 2] (by rw[<-hf];first|exact eR|refine Yw ?_;rfl)
def UR (d:List AJ) (l:List ByteArray):Nat->List ByteArray->Int
 | _,[]=>0
 | k,x :: r=>if BH d x<0 then 5 else if Ae (l.take k) x=true then 4 else UR d l (k+1) r
def K8 (d:List AJ):List AJ->Int
 | []=>0
 | x :: l=>if UR d x.2.1 0 x.2.1≠0 then UR d x.2.1 0 x.2.1 else K8 d l
def K9 (d:List AJ):Int:=K8 d d
theorem SB (d:List AJ) (l:List ByteArray) {k:Nat} (h:k<l.length):UR d l k (l.drop k)=if BH d (l.getD k ByteArray.empty)<0 then 5 else if Ae (l.take k) (l.getD k ByteArray.empty)=true then 4 else UR d l (k+1) (l.drop (k+1)):=by
 rw[Of h];have e:l.getD k ByteArray.empty=l[k]:=by simp[AS,h]
 rw[e];rfl
theorem bN (d l:List AJ) {k:Nat} (h:k<l.length):K8 d (l.drop k)=if UR d (l.getD k d0).2.1 0 (l.getD k d0).2.1≠0 then UR d (l.getD k d0).2.1 0 (l.getD k d0).2.1 else K8 d (l.drop (k+1)):=by
 rw[Of h];have e:l.getD k d0=l[k]:=by simp[AS,h]
 rw[e];rfl
def Uj:AZ:={ ins:=[E8],pre:=λ_=>True,out:=λ(l,_)=>[.p GI (K9 l)] }
attribute [local go_sem] Uj
theorem A0m:Af Tryz.prog 198 Uj:=by
 refine fK [0,2,3,4,5,9,20,29,37] Tryz.func198 Tryz.ntmps198 (AF G7 (AF ME AH)) ?_;rintro w0 O0 ⟨l,u⟩ d ⟨⟨hl,g⟩,-⟩ -;simp only[AO]at hl;simp only[Uj,AM];repeat'(first|exact trivial|apply eS rfl|refine rX d ?_ ?_)
 refine AK (ι:={i:Nat//i<=l.length/\K8 l (l.drop i)=K9 l}) (λi=>⟨[(0,.p E8 l),(3,.p (.int .i64) (i.1:Int))],[]⟩) (λi=>l.length-i.1) ⟨0,NO _,rfl⟩ (eW []) (λi=>?_)
 obtain⟨i,hi,hf⟩:=i;simp only;repeat'(first|exact trivial|apply eS rfl|refine rX d ?_ ?_|refine rC ?_ ?_<;>intro b<;>try(cases b;done))
 .exact b
 .have f:i<l.length:=by exact eV
  have h:=g _ (AE l d0 f);have j:(l.getD i d0).2.1.length<=AO:=h.2.1.1;simp only[AO]at j;rw[bN l l f]at hf;generalize (l.getD i d0).2.1=sup at *;refine AK (ι:={k:Nat//k<=sup.length/\UR l sup k (sup.drop k)=UR l sup 0 sup}) (λk=>⟨[(0,.p E8 l),(3,.p (.int .i64) (i:Int)),(4,.p GH sup),(5,.p (.int .i64) (k.1:Int))],[]⟩) (λk=>sup.length-k.1) ⟨0,NO _,rfl⟩ (eW []) (λk=>?_)
  obtain⟨k,hk,c⟩:=k;simp only;repeat'(first|exact trivial|apply eS rfl|apply AB|refine rX d ?_ ?_|refine rC ?_ ?_<;>intro b<;>try(cases b;done))
  .exact b
  .have a:k<sup.length:=by exact eV
   rw[SB l sup a,BY b]at c;rw[<-c,BY (by decide)]at hf;exact fI d [.tmp 2] (by rw[<-hf];exact eR)
  .exact eV
  .rename_i e;have a:k<sup.length:=by exact eV
   rw[SB l sup a,As (AE3.2 e),BY b]at c;rw[<-c,BY (by decide)]at hf;exact fI d [.tmp 2] (by rw[<-hf];exact eR)
  .exact eV
  .rename_i e;have a:k<sup.length:=by exact eV
   rw[SB l sup a,As (AE3.2 e),As (by rw[b];simp)]at c;exact⟨⟨k+1,by omega,c⟩,by simp only;omega,eW []⟩
  .exact eV
  have a:sup.drop k=[]:=RC (by exact eV);rw[a]at c;rw[<-c,As (by simp[UR])]at hf;exact⟨⟨i+1,by omega,hf⟩,by simp only;omega,eW []⟩
 have a:l.drop i=[]:=RC (by exact eV);rw[a]at hf;exact fI d [.tmp 2] (by rw[<-hf];first|exact eR|refine Yw ?_;rfl)
end
section
attribute [local go_sem] Ol bL Jd bH
theorem Ew {α β:Type} (g:β->α->β) (l:List α) (d:α) (t:β) {i:Nat} (hi:i<l.length):(l.take (i+1)).foldl g t=g ((l.take i).foldl g t) (l.getD i d):=by
 rw[Au l d hi,AEl];rfl
theorem MH (l:List ByteArray) (s:ByteArray):(Dx l s).length<=l.length+1:=by
 unfold Dx;split
 .omega
 have:=A8O (λx=>Cf x s) l;have a:YB l s<=l.length:=this;simp only[By,OS,S0,IS];omega
def AW (l:List AJ):List ByteArray:=l.foldl (λo x=>Dx o x.1) []
theorem FL (l:List AJ) (k:Nat):(AW (l.take k)).length<=k:=by
 have key:∀(l:List AJ) (o:List ByteArray),(l.foldl (λo x=>Dx o x.1) o).length<=o.length+l.length:=by
  intro l;induction l with
  | nil=>intro o;simp
  | cons x l b =>
   intro o;have h1:=b (Dx o x.1);have a:=MH o x.1;simp only[RE,No];omega
 have h1:=key (l.take k) [];have a:=tO k l;unfold AW;simp only[AAg]at h1;omega
def QW:AZ:={ ins:=[E8],pre:=λ(l,_)=>List.length l<=100000,out:=λ(l,_)=>[.p GH (AW l)] }
attribute [local go_sem] QW
theorem Y2:Af Tryz.prog 161 QW:=by
 refine fK [0,2,3,4,8] Tryz.func161 Tryz.ntmps161 (AF R8 AH) ?_;rintro w0 O0 ⟨l,u⟩ a-hl;have hl:l.length<=100000:=hl;simp only[QW,AM];repeat'(first|exact trivial|apply eS rfl|refine rX a ?_ ?_)
 refine AK (ι:={k:Nat//k<=l.length}) (λk=>⟨[(0,.p E8 l),(3,.p GH (AW (l.take k.1))),(4,.p (.int .i64) (k.1:Int))],[]⟩) (λk=>l.length-k.1) ⟨0,NO _⟩ (AC [] rfl rfl ?_ ?_) (λk=>?_)
 .exact eN
 .refine eM ?_;rfl
 obtain⟨k,hk⟩:=k;have hn:=FL l k;have hs:=λh:k<l.length=>Ew (λ(o:List ByteArray) (x:AJ)=>Dx o x.1) l d0 [] h;simp only;repeat'(first|exact trivial|apply eS rfl|apply AB|refine rX a ?_ ?_|refine rC ?_ ?_<;>intro c<;>try(cases c;done))
 .exact⟨c,by omega⟩
 .exact eV
 .have b:k<l.length:=by exact eV
  have e:=hs b;refine⟨⟨k+1,by omega⟩,by simp only;omega,AC [] rfl rfl ?_ ?_⟩
  .exact eN
  simp only;have e:AW (l.take (k+1))=Dx (AW (l.take k)) (l.getD k d0).1:=e;rw[e];exact eN
 have b:l.take k=l:=At (by exact eV);rw[b];exact fI a [.tmp 2]
def JG (out:List ByteArray) (s:Bool×ByteArray) (x:AJ):Bool×ByteArray :=
 if (Ae out x.1||!Je x out)=true then s else (true,if (!s.1||Cf x.1 s.2)=true then x.1 else s.2)
def IL (d:List AJ) (out:List ByteArray):Bool×ByteArray:=d.foldl (JG out) (false,ByteArray.empty)
def JH (d:List AJ):Nat->List ByteArray->List ByteArray
 | 0,out=>out
 | n+1,out=>if (IL d out).1=true then JH d n (out++[(IL d out).2]) else out
def Bj (d:List AJ):List ByteArray:=JH d d.length []
def IM (d:List AJ) (out:List ByteArray):Nat:=d.countP λx=>!Ae out x.1
theorem FM (s:ByteArray):Ac s s=true:=by unfold Ac;simp
theorem Oo (out:List ByteArray) (s x:ByteArray):Ae (out++[s]) x=(Ae out x||Ac s x):=by
 unfold Ae;simp[AEM]
theorem A0n (d:List AJ) (out:List ByteArray) (h:(IL d out).1=true):∃x∈d,x.1=(IL d out).2/\Ae out x.1=false:=by
 have key:∀(l:List AJ) (s:Bool×ByteArray),(∀x∈l,x∈d)->(s.1=true->∃x∈d,x.1=s.2/\Ae out x.1=false)->(l.foldl (JG out) s).1=true ->
   ∃x∈d,x.1=(l.foldl (JG out) s).2/\Ae out x.1=false:=by
  intro l;induction l with
  | nil=>intro s _ hs h;exact hs h
  | cons y l e =>
   intro s hl hs h;rw[RE]at h ⊢;refine e _ (λx hx=>hl x (by simp[hx])) (λhp=>?_) h;unfold JG at hp ⊢;split
   .rename_i a;rw[BY a]at hp;exact hs hp
   rename_i a;simp only;have c:Ae out y.1=false:=by
    cases hh:Ae out y.1 with
    | false=>rfl
    | true=>rw[hh]at a;simp at a
   split
   .exact⟨y,hl y (by simp),rfl,c⟩
   rename_i b;have:s.1=true:=by
    cases hh:s.1 with
    | true=>rfl
    | false=>rw[hh]at b;simp at b
   exact hs this
 exact key d _ (λ_ h=>h) (λh=>by cases h) h
theorem gC {d:List AJ} {out:List ByteArray} (h:(IL d out).1=true):IM d (out++[(IL d out).2])<IM d out:=by
 obtain⟨x,hx,h1,b⟩:=A0n d out h;generalize (IL d out).2=s at *;unfold IM;have key:∀l:List AJ,(l.countP λy=>!Ae (out++[s]) y.1)<=l.countP λy=>!Ae out y.1:=by
  intro l;refine List.countP_mono_left λy _ a=>?_;rw[Oo]at a;cases hh:Ae out y.1 with
  | false=>rfl
  | true=>rw[hh]at a;simp at a
 obtain⟨c,e,rfl⟩:=List.append_of_mem hx;rw[AFk,AFk,AEr,AEr];have f:=key c;have g:=key e;have e1:Ae (out++[s]) x.1=true:=by rw[Oo,h1,FM,Bool.or_true]
 rw[e1,b];simp only[Bool.not_true,Bool.not_false,ADv];simp only[iN,ADz];omega
def bO:AZ:={ ins:=[E8],pre:=λ(l,_)=>List.length l<=100000,out:=λ(l,_)=>[.p GH (Bj l)] }
theorem A0o:Af Tryz.prog 199 bO:=by
 refine fK [0,2,3,4,5,6,7,11,29,40,46] Tryz.func199 Tryz.ntmps199 (AF G7 (AF A36 AH)) ?_;rintro w0 O0 ⟨d,u⟩ j-r;have r:d.length<=100000:=r;simp only[bO,AM];repeat'(first|exact trivial|apply eS rfl|refine rX j ?_ ?_)
 refine AK (ι:={x:Nat×List ByteArray×Bool//x.1+x.2.1.length<=d.length/\(x.2.2=true->IM d x.2.1<=x.1/\JH d x.1 x.2.1=Bj d)/\(x.2.2=false->x.2.1=Bj d)}) (λx=>⟨[(0,.p E8 d),(3,.sr 50 T9 0 x.1.2.1.length),(4,.p .bool x.1.2.2)],[(50,.arr 9 T9 x.1.2.1)]⟩) (λx=>(if x.1.2.2=true then x.1.1+1 else 0)) ⟨(d.length,[],true),by simp,λ_=>⟨List.countP_le_length,rfl⟩,λh=>by cases h⟩ (eW [(50,.nil)]) (λx=>?_)
 obtain⟨⟨n,out,C⟩,s,t,v⟩:=x;simp only at s t v;simp only;repeat'(first|exact trivial|apply eS rfl|refine rX j ?_ ?_|refine rC ?_ ?_<;>intro a<;>try(cases a;done))
 .subst a;obtain⟨hu,hp⟩:=t rfl;have B:({ data:=#[] }:ByteArray).size<=AO:=by decide
  rw[BY B];refine AK (ι:={y:Nat×Bool×ByteArray//y.1<=d.length/\(d.take y.1).foldl (JG out) (false,ByteArray.empty)=y.2}) (λy=>⟨[(0,.p E8 d),(3,.sr 50 T9 0 out.length),(4,.p .bool y.1.2.1),(5,.p T9 y.1.2.2),(6,.p (.int .i64) (y.1.1:Int))],[(50,.arr 9 T9 out)]⟩) (λy=>d.length-y.1.1) ⟨(0,false,ByteArray.empty),by simp,rfl⟩ (AC [(50,.nm 50)] rfl rfl ?_ ?_) (λy=>?_)
  .exact eN
  .refine eM ?_;rfl
  obtain⟨⟨k,w,b⟩,hk,c⟩:=y;simp only at hk c;have q:∀h:k<d.length,(d.take (k+1)).foldl (JG out) (false,ByteArray.empty)=JG out (w,b) (d.getD k d0):=λh=>by
   rw[Ew (JG out) d d0 _ h,c]
  simp only;repeat'(first|exact trivial|apply eS rfl|apply AB|refine rX j ?_ ?_|refine rC ?_ ?_<;>intro a<;>try(cases a;done))
  .exact⟨a,λ_=>a⟩
  .exact eV
  .have g:k<d.length:=by exact eV
   refine⟨⟨(k+1,w,b),by simp only;omega,?_⟩,by simp only;omega,AC [(50,.nm 50)] rfl rfl ?_ ?_⟩
   .simp only;rw[q g];unfold JG;rw[BY];rw[Sx,RH];exact a
   .exact eN
   exact eN
  .exact λ_=>by assumption
  .assumption
  .exact eV
  .rename_i f;have g:k<d.length:=by exact eV
   refine⟨⟨(k+1,true,(d.getD k d0).1),by simp only;omega,?_⟩,by simp only;omega,AC [(50,.nm 50)] rfl rfl ?_ ?_⟩
   .simp only;rw[q g];unfold JG;rw[As (by rw[f.1,f.2];simp),BY (by rw[Sx,RH];exact a)]
   .exact eN
   exact eN
  .exact eV
  .rename_i f;have g:k<d.length:=by exact eV
   refine⟨⟨(k+1,true,b),by simp only;omega,?_⟩,by simp only;omega,AC [(50,.nm 50)] rfl rfl ?_ ?_⟩
   .simp only;rw[q g];unfold JG;rw[As (by rw[f.1,f.2];simp),As (by rw[Sx,RH];rintro (h|h)<;>simp_all)]
   .exact eN
   exact eN
  .simp only[AO];dsimp only[Ty.den]at *;omega
  .subst a;have l:d.take k=d:=At (by exact eV);rw[l]at c;have i:IL d out=(true,b):=c;have m:=gC (d:=d) (out:=out) (by rw[i]);rw[i]at m;obtain⟨e,rfl⟩:∃e,n=e+1:=⟨n-1,by omega⟩;have o:JH d e (out++[b])=Bj d:=by
    rw[<-hp];show _=if (IL d out).1=true then JH d e (out++[(IL d out).2]) else out
    rw[i,BY rfl]
   have m:IM d (out++[b])<IM d out:=m;have A:IM d (out++[b])<=e:=by omega
   exact⟨⟨(e,out++[b],true),by simp only[By,IS];omega,λ_=>⟨A,o⟩,λh=>by cases h⟩,by simp,eW [(50,.nm 50)]⟩
  subst a;have l:d.take k=d:=At (by exact eV);rw[l]at c;have i:IL d out=(false,b):=c;have o:out=Bj d:=by
   rw[<-hp];cases n with
   | zero=>rfl
   | succ n =>
    show _=if (IL d out).1=true then JH d n (out++[(IL d out).2]) else out
    rw[i,As (by simp)]
  exact⟨⟨(n,out,false),s,(λh=>by cases h),λ_=>o⟩,by simp,eW [(50,.nm 50)]⟩
 subst a;have z:=v rfl;rw[z];refine F0 [50] ?_;exact fI j [.tmp 2]
end
section
attribute [local go_sem] bK bM Uj bO
def X1 (d:List AJ):Nat:=d.countP λx=>x.2.1.length==0
theorem gD (d:List AJ) {k:Nat} (h:k<d.length):X1 (d.take (k+1))=X1 (d.take k)+if ((d.getD k d0).2.1.length==0)=true then 1 else 0:=by
 unfold X1;rw[Au d d0 h,AFk,AEr,List.countP_nil];omega
theorem A0p (d:List AJ):X1 d<=d.length:=List.countP_le_length
def BS (d:List AJ):Int :=
 if E7 d≠0 then E7 d else if Dy d≠0 then Dy d else if K9 d≠0 then K9 d else if X1 d≠1 then 1 else if (Bj d).length<d.length then 6 else 0
theorem Tf {d:List AJ} (h:E7 d=0):d.length<=256:=by
 unfold E7 at h;split at h
 .cases h
 omega
def Uk:AZ:={ ins:=[E8],pre:=λ_=>True,out:=λ(l,_)=>[.p GI (BS l)] }
attribute [local go_sem] Uk
theorem A0q:Af Tryz.prog 160 Uk:=by
 refine fK [0,2,3,4,5,6,7,11,16,21,26,35,39,45] Tryz.func160 Tryz.ntmps160 (AF A35 (AF A37 (AF A0m (AF A0o AH)))) ?_;rintro w0 O0 ⟨d,u⟩ c - -;simp only[Uk,AM];repeat'(first|exact trivial|apply eS rfl|refine rX c ?_ ?_|refine rC ?_ ?_<;>intro a<;>try(cases a;done))
 .have h1:BS d=E7 d:=by unfold BS;rw[BY a]
  exact fI c [.tmp 2] (by rw[h1];exact eR)
 .rename_i hs;have hs:E7 d=0:=by simpa using hs
  have h1:BS d=Dy d:=by unfold BS;rw[As (by rw[hs];simp),BY a]
  exact fI c [.tmp 2] (by rw[h1];exact eR)
 .rename_i hs hn;have hs:E7 d=0:=by simpa using hs
  have hn:Dy d=0:=by simpa using hn
  have h1:BS d=K9 d:=by unfold BS;rw[As (by rw[hs];simp),As (by rw[hn];simp),BY a]
  exact fI c [.tmp 2] (by rw[h1];exact eR)
 rename_i hs hn;have hs:E7 d=0:=by simpa using hs
 have hn:Dy d=0:=by simpa using hn
 have hu:K9 d=0:=by simpa using a
 have i:=Tf hs;have h1:BS d=if X1 d≠1 then 1 else if (Bj d).length<d.length then 6 else 0:=by
  unfold BS;rw[As (by rw[hs];simp),As (by rw[hn];simp),As (by rw[hu];simp)]
 refine AK (ι:={k:Nat//k<=d.length}) (λk=>⟨[(0,.p E8 d),(6,.p (.int .i64) (X1 (d.take k.1):Int)),(7,.p (.int .i64) (k.1:Int))],[]⟩) (λk=>d.length-k.1) ⟨0,NO _⟩ (AC [] rfl rfl ?_ ?_) (λk=>?_)
 .exact eN
 .refine eM ?_;rfl
 obtain⟨k,hk⟩:=k;have j:=A0p (d.take k);have l:=tO k d;have g:=λh:k<d.length=>gD d h;simp only;repeat'(first|exact trivial|apply eS rfl|apply AB|refine rX c ?_ ?_|refine rC ?_ ?_<;>intro a<;>try(cases a;done))
 .exact a
 .exact eV
 .exact eV
 .have b:k<d.length:=by exact eV
  have e:=g b;rw[BY (by rw[S1];exact Int.ofNat_eq_zero.1 a)]at e;refine⟨⟨k+1,by omega⟩,by simp only;omega,AC [] rfl rfl ?_ ?_⟩
  .exact eN
  simp only[e];exact eN
 .exact eV
 .have b:k<d.length:=by exact eV
  have e:=g b;rw[As (by rw[S1];exact λh=>a (Int.ofNat_eq_zero.2 h))]at e;refine⟨⟨k+1,by omega⟩,by simp only;omega,AC [] rfl rfl ?_ ?_⟩
  .exact eN
  simp only[e];exact eN
 .have b:d.take k=d:=At (by exact eV);rw[b]at a;rw[BY (λh=>a (by rw[h];rfl))]at h1;exact fI c [.tmp 2] (by rw[h1];exact eR)
 .show d.length<=100000;omega
 .rename_i f;have b:d.take k=d:=At (by exact eV);rw[b]at f;have f:(X1 d:Int)=1:=by simpa using f
  rw[As (by omega),BY (IN.1 a)]at h1;exact fI c [.tmp 2] (by rw[h1];exact eR)
 rename_i f;have b:d.take k=d:=At (by exact eV);rw[b]at f;have f:(X1 d:Int)=1:=by simpa using f
 rw[As (by omega),As (λh=>absurd (RJ.1 a) (Nat.not_le.2 h))]at h1;exact fI c [.tmp 2] (by rw[h1];exact eR)
end
section
attribute [local go_sem] Ol Jd bH
def MJ (o:List ByteArray) (s:ByteArray):List ByteArray:=if Ae o s=true then o else o++[s]
def MK (d:List AJ) (s:ByteArray):List ByteArray:=(d.getD (BH d s).toNat d0).2.1
def LA (d:List AJ):Nat->Nat->List ByteArray->List ByteArray
 | 0,_,o=>o
 | n+1,i,o=>if i<o.length then LA d n (i+1) ((MK d (o.getD i ByteArray.empty)).foldl MJ o) else o
def ML (l:List ByteArray):List ByteArray:=l.foldl Dx []
theorem Y3 (l:List ByteArray):(ML l).length<=l.length:=by
 have key:∀(l o:List ByteArray),(l.foldl Dx o).length<=o.length+l.length:=by
  intro l;induction l with
  | nil=>intro o;simp
  | cons x l a =>
   intro o;have h1:=a (Dx o x);have b:=MH o x;simp only[RE,No];omega
 have:=key l [];simpa[ML] using this
def Oq (d:List AJ) (s:ByteArray):List ByteArray:=if BH d s<0 then [] else ML (LA d d.length 0 [s])
def WK (d:List AJ):Prop:=∀x∈d,∀s∈x.2.1,0<=BH d s
theorem Y4 (s:ByteArray):∀(l:List AJ) (k:Nat),Ct s k l=-1\/((k:Int)<=Ct s k l/\Ct s k l<(k:Int)+l.length/\Ac (l.getD ((Ct s k l).toNat-k) d0).1 s=true)
 | [],_=>.inl rfl
 | x :: l,k=>by
  simp only[Ct];split
  .rename_i h;right;refine⟨by omega,by simp only[No];omega,?_⟩;have:((k:Int).toNat-k)=0:=by omega
   rw[this];exact h
  rcases Y4 s l (k+1) with h|⟨h1,b,a⟩
  .exact .inl h
  right;refine⟨by omega,by simp only[No];omega,?_⟩;have:((Ct s (k+1) l).toNat-k)=((Ct s (k+1) l).toNat-(k+1))+1:=by omega
  rw[this];exact a
theorem Dp (d:List AJ) (s:ByteArray):BH d s<0\/(0<=BH d s/\BH d s<(d.length:Int)/\Ac (d.getD (BH d s).toNat d0).1 s=true):=by
 rcases Y4 s d 0 with h|⟨h1,a,b⟩
 .left;show Ct s 0 d<0;omega
 have a:BH d s<((0:Nat):Int)+d.length:=a;exact .inr ⟨h1,by omega,b⟩
theorem KC {a b:ByteArray}:Ac a b=true↔a.toList=b.toList:=by unfold Ac;simp
theorem FN {a b:ByteArray} (h:Ac a b=true):Ac b a=true:=KC.2 (KC.1 h).symm
theorem DM {a b c:ByteArray} (h:Ac a b=true) (g:Ac b c=true):Ac a c=true:=KC.2 ((KC.1 h).trans (KC.1 g))
structure dV (d:List AJ) (o:List ByteArray):Prop where
 decl:∀s∈o,0<=BH d s
 nd:o.Pairwise λa b=>Ac a b=false
theorem LB (d:List AJ):∀ {o:List ByteArray},dV d o->(o.map λs=>(BH d s).toNat).Nodup
 | [],_=>by simp
 | s :: o,h=>by
  rw[RS,TO];have b:=Rb.1 h.nd;refine⟨λf=>?_,LB d ⟨λx hx=>h.decl x (by simp[hx]),b.2⟩⟩;obtain⟨x,hx,e⟩:=GO.1 f;have h1:=h.decl s (by simp);have i:=h.decl x (by simp[hx]);rcases Dp d s with g|⟨_,_,c⟩
  .omega
  rcases Dp d x with g|⟨_,_,a⟩
  .omega
  rw[e]at a;have:=b.1 x hx;rw[DM (FN c) a]at this;cases this
theorem dV.len {d:List AJ} {o:List ByteArray} (h:dV d o):o.length<=d.length:=by
 have:=EM d.length (o.map λs=>(BH d s).toNat) (LB d h) (λj a=>by
  obtain⟨s,hs,rfl⟩:=GO.1 a;have h1:=h.decl s hs;rcases Dp d s with g|⟨_,g,_⟩<;>omega)
 simpa using this
theorem QX {o:List ByteArray} {s:ByteArray} (h:Ae o s=false):∀x∈o,Ac x s=false:=λx hx=>by
 cases hh:Ac x s with
 | false=>rfl
 | true=>exact absurd h (by rw[show Ae o s=true from RT.2 ⟨x,hx,hh⟩];simp)
theorem xS {d:List AJ} {o:List ByteArray} (h:dV d o) {s:ByteArray} (hs:0<=BH d s):dV d (MJ o s):=by
 unfold MJ;split
 .exact h
 rename_i c;have c:Ae o s=false:=by simpa using c
 refine⟨λx hx=>?_,?_⟩
 .rcases Is.1 hx with hx|hx
  .exact h.decl x hx
  have:x=s:=by simpa using hx
  rw[this];exact hs
 rw[ADB];refine⟨h.nd,by simp,λa ha b e=>?_⟩;have:b=s:=by simpa using e
 rw[this];exact QX c a ha
theorem gE {d:List AJ}:∀ {l o:List ByteArray},(∀s∈l,0<=BH d s)->dV d o->dV d (l.foldl MJ o)/\o.length<=(l.foldl MJ o).length
 | [],o,_,h=>⟨h,If _⟩
 | s :: l,o,hl,h=>by
  obtain⟨a,b⟩:=gE (l:=l) (λx hx=>hl x (by simp[hx])) (xS h (hl s (by simp)));refine⟨a,RG ?_ b⟩;unfold MJ;split<;>simp
theorem gF {d:List AJ} (a:WK d) (s:ByteArray):∀x∈MK d s,0<=BH d x:=by
 intro x hx;unfold MK at hx;by_cases h:(BH d s).toNat<d.length
 .exact a _ (AE d d0 h) x hx
 rw[AS,RP (by omega)]at hx;cases hx
def nF:AZ:={ ins:=[E8,T9],pre:=λ(d,_,_)=>WK d/\List.length d<=256,out:=λ(d,s,_)=>[.p GH (Oq d s)] }
theorem A38:Af Tryz.prog 222 nF:=by
 refine fK [0,1,4,5,6,7,8,9,10,14,20,36,45,56] Tryz.func222 Tryz.ntmps222 (AF ME (AF G7 (AF R8 AH))) ?_;rintro w0 O0 ⟨d,s,u⟩ b ⟨⟨O,E⟩,-⟩ ⟨M,w⟩;have w:d.length<=256:=w;simp only[nF,AM];repeat'(first|exact trivial|apply eS rfl|refine rX b ?_ ?_|refine rC ?_ ?_<;>intro a<;>try(cases a;done))
 .have h1:Oq d s=[]:=by unfold Oq;rw[BY a]
  exact fI b [.tmp 4] (by rw[h1];exact eR)
 have h1:Oq d s=ML (LA d d.length 0 [s]):=by unfold Oq;rw[As (AE3.2 a)]
 have D:dV d [s]:=⟨λx hx=>by
  have:x=s:=by simpa using hx
  rw[this];exact a,by simp⟩
 refine AK (ι:={x:Nat×List ByteArray//x.1<=x.2.length/\dV d x.2/\LA d (d.length-x.1) x.1 x.2=LA d d.length 0 [s]}) (λx=>⟨[(0,.p E8 d),(1,.p T9 s),(5,.sr 16 T9 0 x.1.2.length),(6,.p (.int .i64) (x.1.1:Int))],[(16,.arr 9 T9 x.1.2)]⟩) (λx=>d.length-x.1.1) ⟨(0,[s]),by simp,D,rfl⟩ (eW [(16,.nm 16)]) (λx=>?_)
 obtain⟨⟨i,o⟩,hi,c,r⟩:=x;simp only at hi c r;have S:=c.len;simp only;repeat'(first|exact trivial|apply eS rfl|refine rX b ?_ ?_|refine rC ?_ ?_<;>intro a<;>try(cases a;done))
 .have q:i<o.length:=by exact eV
  have y:=c.decl _ (AE o ByteArray.empty q);refine⟨a,y,?_⟩;rcases Dp d (o.getD i ByteArray.empty) with g|⟨_,g,_⟩
  .omega
  exact g
 .have q:i<o.length:=by exact eV
  have y:=c.decl _ (AE o ByteArray.empty q);have I:=gF M (o.getD i ByteArray.empty);have A:LA d (d.length-(i+1)) (i+1) ((MK d (o.getD i ByteArray.empty)).foldl MJ o)=LA d d.length 0 [s]:=by
   rw[<-r];obtain⟨m,z⟩:∃m,d.length-i=m+1:=⟨d.length-i-1,by omega⟩;have F:d.length-(i+1)=m:=by omega
   rw[z,F];show _=if i<o.length then LA d m (i+1) ((MK d (o.getD i ByteArray.empty)).foldl MJ o) else o
   rw[BY q]
  have K:(MK d (o.getD i ByteArray.empty)).length<=AO:=by
   rcases Dp d (o.getD i ByteArray.empty) with g|⟨_,g,_⟩
   .omega
   exact(E _ (AE d d0 (k:=(BH d (o.getD i ByteArray.empty)).toNat) (by omega))).2.1.1
  have L:(List.getD d (BH d (o.getD i ByteArray.empty)).toNat (ByteArray.empty,[],[])).2.1=MK d (o.getD i ByteArray.empty):=rfl;rw[L];generalize MK d (o.getD i ByteArray.empty)=sup at *;simp only[AO]at K;refine AK (ι:={k:Nat//k<=sup.length}) (λk=>⟨[(0,.p E8 d),(1,.p T9 s),(5,.sr 16 T9 0 ((sup.take k.1).foldl MJ o).length),(6,.p (.int .i64) (i:Int)),(7,.p GH sup),(8,.p (.int .i64) (k.1:Int))],[(16,.arr 9 T9 ((sup.take k.1).foldl MJ o))]⟩) (λk=>sup.length-k.1) ⟨0,NO _⟩ (AC [(16,.nm 16)] rfl rfl ?_ ?_) (λk=>?_)
  .refine eM ?_;rfl
  .refine eM ?_;rfl
  obtain⟨k,hk⟩:=k;have v:=gE (l:=sup.take k) (o:=o) (λx hx=>I x (S4 hx)) c;have Q:=v.1.len;have C:=λh:k<sup.length=>Ew MJ sup ByteArray.empty o h;simp only;generalize B:(sup.take k).foldl MJ o=n at *;repeat'(first|exact trivial|apply eS rfl|apply AB|refine rX b ?_ ?_|refine rC ?_ ?_<;>intro a<;>try(cases a;done))
  .exact a
  .refine⟨by exact eV,?_⟩;simp only[AO];dsimp only[Ty.den]at *;omega
  .exact eV
  .have f:k<sup.length:=by exact eV
   have e:=C f;have e2:MJ n (sup.getD k ByteArray.empty)=n++[sup.getD k ByteArray.empty]:=by unfold MJ;rw[As (by rw[a];simp)]
   rw[e2]at e;refine⟨⟨k+1,by omega⟩,by simp only;omega,AC [(16,.nm 16)] rfl rfl ?_ ?_⟩
   .simp only[e];exact eN
   simp only[e];exact eN
  .exact eV
  .have f:k<sup.length:=by exact eV
   have e:=C f;have e2:MJ n (sup.getD k ByteArray.empty)=n:=by unfold MJ;rw[BY a]
   rw[e2]at e;refine⟨⟨k+1,by omega⟩,by simp only;omega,AC [(16,.nm 16)] rfl rfl ?_ ?_⟩
   .simp only[e];exact eN
   simp only[e];exact eN
  .exact eV
  have f:sup.take k=sup:=At (by exact eV);rw[f]at B;rw[B]at A;have H:=v.1;have R:=v.2;exact⟨⟨(i+1,n),by simp only;omega,H,A⟩,by simp only;omega,eW [(16,.nm 16)]⟩
 have G:o=LA d d.length 0 [s]:=by
  rw[<-r];cases z:d.length-i with
  | zero=>rfl
  | succ m =>
   show _=if i<o.length then _ else o
   rw[As (by exact eV)]
 rw[<-G]at h1;refine AK (ι:={j:Nat//j<=o.length}) (λj=>⟨[(0,.p E8 d),(5,.sr 16 T9 0 o.length),(9,.p GH ((o.take j.1).foldl Dx [])),(10,.p (.int .i64) (j.1:Int))],[(16,.arr 9 T9 o)]⟩) (λj=>o.length-j.1) ⟨0,NO _⟩ (AC [(16,.nm 16)] rfl rfl ?_ ?_) (λj=>?_)
 .exact eN
 .refine eM ?_;rfl
 obtain⟨j,P⟩:=j;have J:=λh:j<o.length=>Ew Dx o ByteArray.empty [] h;simp only;repeat'(first|exact trivial|apply eS rfl|apply AB|refine rX b ?_ ?_|refine rC ?_ ?_<;>intro a<;>try(cases a;done))
 .refine⟨a,?_⟩;have:=Y3 (o.take j);have N:=tO j o;unfold ML at this;dsimp only[Ty.den]at *;omega
 .exact eV
 .have t:j<o.length:=by exact eV
  have e:=J t;refine⟨⟨j+1,by omega⟩,by simp only;omega,AC [(16,.nm 16)] rfl rfl ?_ ?_⟩
  .exact eN
  simp only[e];exact eN
 have t:o.take j=o:=At (by exact eV);rw[t];exact fI b [.tmp 4] (by rw[h1];unfold ML;exact eR)
end
section
attribute [local go_sem] Ol Jd bH
def Fi (s:ByteArray) (o:List ByteArray) (x:AJ):List ByteArray:=if (Ae x.2.1 s&&!Ae o x.1)=true then o++[x.1] else o
def Dz (d:List AJ):Nat->Nat->List ByteArray->List ByteArray
 | 0,_,o=>o
 | n+1,i,o=>if i<o.length then Dz d n (i+1) (d.foldl (Fi (o.getD i ByteArray.empty)) o) else o
def D0 (d:List AJ) (s:ByteArray):List ByteArray:=if BH d s<0 then [] else ML (Dz d d.length 0 [s])
theorem WL (s:ByteArray):∀(l:List AJ) (k:Nat) (x:AJ),x∈l->Ac x.1 s=true->0<=Ct s k l
 | y :: l,k,x,hx,h=>by
  simp only[Ct];split
  .omega
  rename_i a;rcases DO.1 hx with rfl|hx
  .exact absurd h a
  exact WL s l (k+1) x hx h
theorem FO {d:List AJ} {x:AJ} (hx:x∈d):0<=BH d x.1:=WL x.1 d 0 x hx (FM _)
theorem A7f {d:List AJ} {o:List ByteArray} (h:dV d o) (s:ByteArray) {x:AJ} (hx:x∈d):dV d (Fi s o x):=by
 unfold Fi;split
 .rename_i a;rw[An,RH]at a;have:=xS h (FO hx);unfold MJ at this
  rwa [As (by rw[a.2];simp)]at this
 exact h
theorem WM {d:List AJ} (s:ByteArray):∀ {l:List AJ} {o:List ByteArray},(∀x∈l,x∈d)->dV d o->dV d (l.foldl (Fi s) o)/\o.length<=(l.foldl (Fi s) o).length
 | [],o,_,h=>⟨h,If _⟩
 | x :: l,o,hl,h=>by
  obtain⟨a,b⟩:=WM s (l:=l) (λy c=>hl y (by simp[c])) (A7f h s (hl x (by simp)));refine⟨a,RG ?_ b⟩;unfold Fi;split<;>simp
theorem SC (s:ByteArray) {i:Nat}:∀ {l:List AJ} {o:List ByteArray},i<o.length->(l.foldl (Fi s) o).getD i ByteArray.empty=o.getD i ByteArray.empty
 | [],_,_=>rfl
 | x :: l,o,h=>by
  have a:i<(Fi s o x).length/\(Fi s o x).getD i ByteArray.empty=o.getD i ByteArray.empty:=by
   unfold Fi;split
   .refine⟨by rw[By];omega,?_⟩;simp only[AS];rw[RZ h]
   exact⟨h,rfl⟩
  rw[RE,SC s a.1,a.2]
def bP:AZ:={ ins:=[E8,T9],pre:=λ(d,_,_)=>List.length d<=256,out:=λ(d,s,_)=>[.p GH (D0 d s)] }
attribute [local go_sem] bP
theorem A39:Af Tryz.prog 200 bP:=by
 refine fK [0,1,4,5,6,7,8,9,13,19,25,47,59] Tryz.func200 Tryz.ntmps200 (AF ME (AF G7 (AF R8 AH))) ?_;rintro w0 O0 ⟨d,s,u⟩ b-v;have v:d.length<=256:=v;simp only[bP,AM];repeat'(first|exact trivial|apply eS rfl|refine rX b ?_ ?_|refine rC ?_ ?_<;>intro a<;>try(cases a;done))
 .have h1:D0 d s=[]:=by unfold D0;rw[BY a]
  exact fI b [.tmp 4] (by rw[h1];exact eR)
 have h1:D0 d s=ML (Dz d d.length 0 [s]):=by unfold D0;rw[As (AE3.2 a)]
 have D:dV d [s]:=⟨λx hx=>by
  have:x=s:=by simpa using hx
  rw[this];exact a,by simp⟩
 refine AK (ι:={x:Nat×List ByteArray//x.1<=x.2.length/\dV d x.2/\Dz d (d.length-x.1) x.1 x.2=Dz d d.length 0 [s]}) (λx=>⟨[(0,.p E8 d),(5,.sr 15 T9 0 x.1.2.length),(6,.p (.int .i64) (x.1.1:Int))],[(15,.arr 9 T9 x.1.2)]⟩) (λx=>d.length-x.1.1) ⟨(0,[s]),by simp,D,rfl⟩ (eW [(15,.nm 15)]) (λx=>?_)
 obtain⟨⟨i,o⟩,hi,n,q⟩:=x;simp only at hi n q;have M:=n.len;simp only;repeat'(first|exact trivial|apply eS rfl|refine rX b ?_ ?_|refine rC ?_ ?_<;>intro a<;>try(cases a;done))
 .have w:i<o.length:=by exact eV
  have z:Dz d (d.length-(i+1)) (i+1) (d.foldl (Fi (o.getD i ByteArray.empty)) o)=Dz d d.length 0 [s]:=by
   rw[<-q];obtain⟨m,y⟩:∃m,d.length-i=m+1:=⟨d.length-i-1,by omega⟩;have E:d.length-(i+1)=m:=by omega
   rw[y,E];show _=if i<o.length then Dz d m (i+1) (d.foldl (Fi (o.getD i ByteArray.empty)) o) else o
   rw[BY w]
  refine AK (ι:={k:Nat//k<=d.length}) (λk=>⟨[(0,.p E8 d),(5,.sr 15 T9 0 ((d.take k.1).foldl (Fi (o.getD i ByteArray.empty)) o).length),(6,.p (.int .i64) (i:Int)),(7,.p (.int .i64) (k.1:Int))],[(15,.arr 9 T9 ((d.take k.1).foldl (Fi (o.getD i ByteArray.empty)) o))]⟩) (λk=>d.length-k.1) ⟨0,NO _⟩ (AC [(15,.nm 15)] rfl rfl ?_ ?_) (λk=>?_)
  .refine eM ?_;rfl
  .refine eM ?_;rfl
  obtain⟨k,hk⟩:=k;have g:=WM (o.getD i ByteArray.empty) (l:=d.take k) (o:=o) (λx hx=>S4 hx) n;have K:=g.1.len;have C:=λh:k<d.length=>Ew (Fi (o.getD i ByteArray.empty)) d d0 o h;have B:((d.take k).foldl (Fi (o.getD i ByteArray.empty)) o).getD i ByteArray.empty=o.getD i ByteArray.empty:=SC _ w;simp only;generalize A:(d.take k).foldl (Fi (o.getD i ByteArray.empty)) o=f at *;repeat'(first|exact trivial|apply eS rfl|apply AB|refine rX b ?_ ?_|refine rC ?_ ?_<;>intro a<;>try(cases a;done))
  .have hl:=g.2;refine⟨a,?_,λ_=>a⟩;dsimp only[Ty.den]at *;omega
  .refine⟨by assumption,?_⟩;simp only[AO];dsimp only[Ty.den]at *;omega
  .exact eV
  .have c:k<d.length:=by exact eV
   have e:=C c;rw[B]at a;have e2:Fi (o.getD i ByteArray.empty) f (d.getD k d0)=f++[(d.getD k d0).1]:=by
    unfold Fi;rw[BY (by rw[An,RH];exact a)]
   rw[e2]at e;refine⟨⟨k+1,by omega⟩,by simp only;omega,AC [(15,.nm 15)] rfl rfl ?_ ?_⟩
   .simp only[e];exact eN
   simp only[e];exact eN
  .exact eV
  .have c:k<d.length:=by exact eV
   have e:=C c;rw[B]at a;have e2:Fi (o.getD i ByteArray.empty) f (d.getD k d0)=f:=by
    unfold Fi;rw[As];rw[An,RH];rintro⟨h1,t⟩;rw[a h1]at t;cases t
   rw[e2]at e;refine⟨⟨k+1,by omega⟩,by simp only;omega,AC [(15,.nm 15)] rfl rfl ?_ ?_⟩
   .simp only[e];exact eN
   simp only[e];exact eN
  .exact eV
  have c:d.take k=d:=At (by exact eV);rw[c]at A;rw[A]at z;have G:=g.1;have L:=g.2;exact⟨⟨(i+1,f),by simp only;omega,G,z⟩,by simp only;omega,eW [(15,.nm 15)]⟩
 have F:o=Dz d d.length 0 [s]:=by
  rw[<-q];cases y:d.length-i with
  | zero=>rfl
  | succ m =>
   show _=if i<o.length then _ else o
   rw[As (by exact eV)]
 rw[<-F]at h1;refine AK (ι:={j:Nat//j<=o.length}) (λj=>⟨[(0,.p E8 d),(5,.sr 15 T9 0 o.length),(8,.p GH ((o.take j.1).foldl Dx [])),(9,.p (.int .i64) (j.1:Int))],[(15,.arr 9 T9 o)]⟩) (λj=>o.length-j.1) ⟨0,NO _⟩ (AC [(15,.nm 15)] rfl rfl ?_ ?_) (λj=>?_)
 .exact eN
 .refine eM ?_;rfl
 obtain⟨j,J⟩:=j;have H:=λh:j<o.length=>Ew Dx o ByteArray.empty [] h;simp only;repeat'(first|exact trivial|apply eS rfl|apply AB|refine rX b ?_ ?_|refine rC ?_ ?_<;>intro a<;>try(cases a;done))
 .refine⟨a,?_⟩;have:=Y3 (o.take j);have I:=tO j o;unfold ML at this;dsimp only[Ty.den]at *;omega
 .exact eV
 .have r:j<o.length:=by exact eV
  have e:=H r;refine⟨⟨j+1,by omega⟩,by simp only;omega,AC [(15,.nm 15)] rfl rfl ?_ ?_⟩
  .exact eN
  simp only[e];exact eN
 have r:o.take j=o:=At (by exact eV);rw[r];exact fI b [.tmp 4] (by rw[h1];unfold ML;exact eR)
end
section
attribute [local go_sem] Ol bH nF Jd
def LZ (d:List AJ) (o:List ByteArray) (x:ByteArray):List ByteArray:=if 0<=BH d x then Dx o x else o
def Cn (d:List AJ) (l:List ByteArray):List ByteArray:=l.foldl (LZ d) []
theorem Jf (d:List AJ) (l:List ByteArray):(Cn d l).length<=l.length:=by
 have key:∀(l o:List ByteArray),(l.foldl (LZ d) o).length<=o.length+l.length:=by
  intro l;induction l with
  | nil=>intro o;simp
  | cons x l a =>
   intro o;have h1:=a (LZ d o x);have b:(LZ d o x).length<=o.length+1:=by
    unfold LZ;split
    .exact MH o x
    omega
   simp only[RE,No];omega
 have:=key l [];simpa[Cn] using this
def SD:AZ:={ ins:=[E8,GH],pre:=λ(_,l,_)=>List.length l<=100000,out:=λ(d,l,_)=>[.p GH (Cn d l)] }
attribute [local go_sem] SD
theorem gG:Af Tryz.prog 221 SD:=by
 refine fK [0,1,4,5,6,10,19] Tryz.func221 Tryz.ntmps221 (AF ME (AF R8 AH)) ?_;rintro w0 O0 ⟨d,l,u⟩ c-hl;have hl:l.length<=100000:=hl;simp only[SD,AM];repeat'(first|exact trivial|apply eS rfl|refine rX c ?_ ?_)
 refine AK (ι:={k:Nat//k<=l.length}) (λk=>⟨[(0,.p E8 d),(1,.p GH l),(5,.p GH (Cn d (l.take k.1))),(6,.p (.int .i64) (k.1:Int))],[]⟩) (λk=>l.length-k.1) ⟨0,NO _⟩ (AC [] rfl rfl ?_ ?_) (λk=>?_)
 .exact eN
 .refine eM ?_;rfl
 obtain⟨k,hk⟩:=k;have hn:=Jf d (l.take k);have f:=tO k l;have hs:=λh:k<l.length=>Ew (LZ d) l ByteArray.empty [] h;simp only;repeat'(first|exact trivial|apply eS rfl|apply AB|refine rX c ?_ ?_|refine rC ?_ ?_<;>intro b<;>try(cases b;done))
 .exact b
 .exact⟨by assumption,by omega⟩
 .exact eV
 .have a:k<l.length:=by exact eV
  have e:Cn d (l.take (k+1))=LZ d (Cn d (l.take k)) (l.getD k ByteArray.empty):=hs a;unfold LZ at e;rw[BY b]at e;refine⟨⟨k+1,by omega⟩,by simp only;omega,AC [] rfl rfl ?_ ?_⟩
  .exact eN
  simp only[e];exact eN
 .exact eV
 .have a:k<l.length:=by exact eV
  have e:Cn d (l.take (k+1))=LZ d (Cn d (l.take k)) (l.getD k ByteArray.empty):=hs a;unfold LZ at e;rw[As (AFG.2 b)]at e;refine⟨⟨k+1,by omega⟩,by simp only;omega,AC [] rfl rfl ?_ ?_⟩
  .exact eN
  simp only[e];exact eN
 have a:l.take k=l:=At (by exact eV);rw[a];exact fI c [.tmp 4]
def A3a (d:List AJ) (all:List ByteArray) (i:Nat) (k:Nat):Bool:=(k:Int)==(i:Int)||!Ae (Oq d (all.getD i ByteArray.empty)) (all.getD k ByteArray.empty)
def Y5 (d:List AJ) (all:List ByteArray) (i n:Nat):Bool:=(List.range n).all (A3a d all i)
def US (d:List AJ) (all:List ByteArray) (n:Nat):List ByteArray:=((List.range n).filter λi=>Y5 d all i all.length).map λi=>all.getD i ByteArray.empty
def CD (d:List AJ) (l:List ByteArray):List ByteArray:=US d (Cn d l) (Cn d l).length
theorem A0r (d:List AJ) (all:List ByteArray) (n:Nat):US d all (n+1)=US d all n++if Y5 d all n all.length=true then [all.getD n ByteArray.empty] else []:=by
 unfold US;rw[S5,AEJ,Sw]
 congr 1
 rw[AAf,AEW];split<;>rfl
theorem gH (d:List AJ) (all:List ByteArray) (n:Nat):(US d all n).length<=n:=by
 unfold US;rw[OR];exact RG (AAw _ _) (by simp)
theorem nG (d:List AJ) (all:List ByteArray) (i n:Nat):Y5 d all i (n+1)=(Y5 d all i n&&A3a d all i n):=by
 unfold Y5;rw[S5,AEB];simp
def MM:AZ:={ ins:=[E8,GH],pre:=λ(d,l,_)=>WK d/\List.length d<=256/\List.length l<=100000,out:=λ(d,l,_)=>[.p GH (CD d l)] }
attribute [local go_sem] MM
theorem WN:Af Tryz.prog 206 MM:=by
 refine fK [0,1,4,5,6,7,8,9,10,17,29,47] Tryz.func206 Tryz.ntmps206 (AF gG (AF A38 (AF G7 AH))) ?_;rintro w0 O0 ⟨d,l,u⟩ c-⟨m,f,hl⟩;have f:d.length<=256:=f;have hl:l.length<=100000:=hl;have j:CD d l=US d (Cn d l) (Cn d l).length:=rfl;have n:=Jf d l;simp only[MM,AM];repeat'(first|exact trivial|apply eS rfl|refine rX c ?_ ?_)
 .exact hl
 rw[j];generalize Cn d l=all at *;refine AK (ι:={i:Nat//i<=all.length}) (λi=>⟨[(0,.p E8 d),(5,.sr 54 T9 0 (US d all i.1).length),(6,.p GH all),(7,.p (.int .i64) (i.1:Int))],[(54,.arr 9 T9 (US d all i.1))]⟩) (λi=>all.length-i.1) ⟨0,NO _⟩ (AC [(54,.nil)] rfl rfl ?_ ?_) (λi=>?_)
 .refine eM ?_;rfl
 .refine eM ?_;rfl
 obtain⟨i,hi⟩:=i;have o:=gH d all i;have b:=A0r d all i;simp only;repeat'(first|exact trivial|apply eS rfl|refine rX c ?_ ?_|refine rC ?_ ?_<;>intro a<;>try(cases a;done))
 .exact⟨a,m,f⟩
 .have g:i<all.length:=by exact eV
  refine AK (ι:={k:Nat//k<=all.length}) (λk=>⟨[(0,.p E8 d),(5,.sr 54 T9 0 (US d all i).length),(6,.p GH all),(7,.p (.int .i64) (i:Int)),(8,.p GH (Oq d (all.getD i ByteArray.empty))),(9,.p .bool (Y5 d all i k.1)),(10,.p (.int .i64) (k.1:Int))],[(54,.arr 9 T9 (US d all i))]⟩) (λk=>all.length-k.1) ⟨0,NO _⟩ (AC [(54,.nm 54)] rfl rfl ?_ ?_) (λk=>?_)
  .exact eN
  .refine eM ?_;rfl
  obtain⟨k,hk⟩:=k;have h:=nG d all i k;simp only;repeat'(first|exact trivial|apply eS rfl|apply AB|refine rX c ?_ ?_|refine rC ?_ ?_<;>intro a<;>try(cases a;done))
  .exact λ_=>a
  .exact eV
  .have e:k<all.length:=by exact eV
   refine⟨⟨k+1,by omega⟩,by simp only;omega,AC [(54,.nm 54)] rfl rfl ?_ ?_⟩
   .exact eN
   simp only[h];unfold A3a;exact eN
  .refine⟨by assumption,?_⟩;simp only[AO];omega
  .exact eV
  .have e:k=all.length:=by exact eV
   subst e;rw[a,BY rfl]at b;refine⟨⟨i+1,by omega⟩,by simp only;omega,AC [(54,.nm 54)] rfl rfl ?_ ?_⟩
   .simp only[b];exact eN
   simp only[b];exact eN
  .exact eV
  have e:k=all.length:=by exact eV
  subst e;rw[a,As (by simp),Ra]at b;refine⟨⟨i+1,by omega⟩,by simp only;omega,AC [(54,.nm 54)] rfl rfl ?_ ?_⟩
  .simp only[b];exact eN
  simp only[b];exact eN
 have g:i=all.length:=by exact eV
 subst g;refine F0 [54] ?_;exact fI c [.tmp 4]
end
section
attribute [local go_sem] K7
def ofA (b:List Int) (x:Int):List Int:=b.set (x.tdiv 64).toNat (B6 .or .u64 (b.getD (x.tdiv 64).toNat 0) (UJ .u64 1 (x.tmod 64)))
def ofL (l:List Int):List Int:=l.foldl ofA (List.replicate 64 0)
def okB (x:Int):Bool:=!(decide (x<0)||decide (4095<x))
def ofF (l:List Int):List Int×Int:=if l.all okB=true then (BM (ofL l),0) else ([],2)
theorem QY (l:List Int):(ofL l).length=64:=by
 have key:∀(l b:List Int),(l.foldl ofA b).length=b.length:=by
  intro l;induction l with
  | nil=>intro b;rfl
  | cons x l a =>
   intro b;rw[RE,a];simp[ofA]
 unfold ofL;rw[key];simp
def ofS:AZ:={ ins:=[F1],pre:=λ_=>True,out:=λ(l,_)=>[.p BG (ofF l).1,.p GI (ofF l).2] }
theorem AD8:Af Tryz.prog 202 ofS:=by
 refine fK [0,2,3,4,5,10,24] Tryz.func202 Tryz.ntmps202 (AF NL AH) ?_;rintro w0 O0 ⟨l,u⟩ c ⟨⟨hl,-⟩,-⟩ -;simp only[AO]at hl;simp only[ofS,AM];repeat'(first|exact trivial|apply eS rfl|refine rX c ?_ ?_)
 .simp only[AO];omega
 refine AK (ι:={k:Nat//k<=l.length/\(l.take k).all okB=true}) (λk=>⟨[(0,.p F1 l),(4,.sr 6 QU 0 (ofL (l.take k.1)).length),(5,.p (.int .i64) (k.1:Int))],[(6,.arr 186 QU (ofL (l.take k.1)))]⟩) (λk=>l.length-k.1) ⟨0,NO _,rfl⟩ (AC [(6,.nm 6)] rfl rfl ?_ ?_) (λk=>?_)
 .refine eM ?_;rfl
 .refine eM ?_;rfl
 obtain⟨k,hk,hf⟩:=k;have d:=QY (l.take k);have hs:∀h:k<l.length,ofL (l.take (k+1))=ofA (ofL (l.take k)) (l.getD k 0):=λh=>Ew ofA l 0 _ h;simp only;repeat'(first|exact trivial|apply eS rfl|apply AB|refine rX c ?_ ?_|refine rC ?_ ?_<;>intro a<;>try(cases a;done))
 .exact⟨a,λ_=>a⟩
 .have b:k<l.length:=by exact eV
  have h1:ofF l=([],2):=by
   unfold ofF;rw[As];intro h;have:=ON.1 h _ (AE l 0 b);unfold okB at this;rw[RH,oN,On,On]at this;rcases a with h|h
   .exact this.1 h
   exact this.2 h
  exact fI c [.tmp 2,.tmp 3] (by rw[h1];exact eR)
 .obtain⟨h0,h1⟩:=a;have e1:Int.tdiv (l.getD k 0) 64=l.getD k 0 / 64:=AAd h0;have e2:Int.tmod (l.getD k 0) 64=l.getD k 0 % 64:=AEp h0;rw[e1,e2,d];refine⟨?_,⟨by decide,?_,?_⟩,?_,⟨by decide,?_,?_⟩,⟨?_,?_⟩,?_,⟨by decide,?_,?_⟩,⟨?_,?_⟩,?_,?_,?_⟩<;>exact eV
 .exact eV
 .have b:k<l.length:=by exact eV
  have e:=hs b;refine⟨⟨k+1,by omega,?_⟩,by simp only;omega,AC [(6,.nm 6)] rfl rfl ?_ ?_⟩
  .rw[KB l 0 _ b,hf,AF8];unfold okB;rw[RH,oN,On,On];exact⟨AE3.2 a.1,AE3.2 a.2⟩
  .simp only[e];refine eM ?_;rfl
  simp only[e];refine eM ?_;rw[<-e,QY,QY]
 have b:l.take k=l:=At (by exact eV);rw[b]at hf ⊢;have h1:ofF l=(BM (ofL l),0):=by unfold ofF;rw[BY hf]
 have f:=QY l;refine F0 [6] ?_;repeat'(first|apply eS rfl|refine rX c ?_ ?_)
 .rw[f];decide
 exact fI c [.tmp 2,.tmp 3] (by rw[h1];exact eR)
end
section
attribute [local go_sem] WJ QV
def nH (l:List (List Int)) (b:List Int):Bool:=l.any λx=>IJ x b
def A9C:AZ:={ ins:=[UQ,BG],pre:=λ_=>True,out:=λ(l,b,_)=>[.p .bool (nH l b)],lend:=true }
theorem A9D:Af Tryz.prog 203 A9C:=by
 refine fK [0,1,4,5,9,17] Tryz.func203 Tryz.ntmps203 (AF bJ AH) ?_;rintro w0 O0 ⟨l,n,u⟩ a ⟨⟨hl,-⟩,-⟩ -;simp only[AO]at hl;simp only[A9C,AM];repeat'(first|exact trivial|apply eS rfl|refine rX a ?_ ?_)
 refine AK (ι:={k:Nat//k<=l.length/\(l.take k).any (λx=>IJ x n)=false}) (λk=>⟨[(0,.p UQ l),(1,.p BG n),(5,.p (.int .i64) (k.1:Int))],[]⟩) (λk=>l.length-k.1) ⟨0,by simp⟩ (eW []) (λk=>?_)
 obtain⟨k,hk,c⟩:=k;repeat'(first|exact trivial|apply eS rfl|apply AB|refine rX a ?_ ?_|refine rC ?_ ?_<;>intro b<;>try(cases b;done))
 .exact eV
 .have d:k<l.length:=by exact eV
  have h1:nH l n=true:=JF l [] _ d b;exact fI a [.tmp 4] (by rw[h1];exact eR)
 .exact eV
 .have d:k<l.length:=by exact eV
  refine⟨⟨k+1,by exact eV,?_⟩,by simp only;exact eV,AC [] rfl rfl ?_ ?_⟩
  .rw[NK l [] _ d,c];exact b
  .exact eN
  exact eN
 have hk:l.take k=l:=At (by exact eV);rw[hk]at c;have h1:nH l n=false:=c;exact fI a [.tmp 4] (by rw[h1];exact eR)
abbrev AQ:=ByteArray×List Int
abbrev c0:AQ:=(ByteArray.empty,[])
def OC (l:List AQ) (i j:Int):Bool:=Eu (l.getD j.toNat c0).2 (l.getD i.toNat c0).2
def xT:AZ:={ ins:=[KA,T3,T3],pre:=λ(l,i,j,_)=>((0:Int)<=i/\i<(List.length l:Int))/\((0:Int)<=j/\j<(List.length l:Int))/\(∀x∈(l:List AQ),x.2.length<=100000),out:=λ(l,i,j,_)=>[.p .bool (OC l i j)],lend:=true }
theorem xV:Af Tryz.prog 166 xT:=by
 refine fK [0,1,2,6] Tryz.func166 Tryz.ntmps166 (AF SA AH) ?_;rintro w0 O0 ⟨l,i,j,u⟩ a-⟨hi,b,hx⟩;simp only[xT,AM];repeat'(first|exact trivial|apply eS rfl|refine rX a ?_ ?_)
 .exact⟨b,hi,hx _ (AE (l:List AQ) c0 (by exact eV))⟩
 exact fI a [.tmp 6] (by unfold OC;exact eR)
end
section
attribute [local go_sem] WJ
def SE (s:ByteArray):Nat->List AQ->Int
 | _,[]=>-1
 | k,x :: l=>if Ac x.1 s=true then (k:Int) else SE s (k+1) l
def Da (l:List AQ) (s:ByteArray):Int:=SE s 0 l
theorem Y6 (s:ByteArray) (l:List AQ) {k:Nat} (h:k<l.length):SE s k (l.drop k)=if Ac (l.getD k c0).1 s=true then (k:Int) else SE s (k+1) (l.drop (k+1)):=by
 rw[Of h];have e:l.getD k c0=l[k]:=by simp[AS,h]
 rw[e];rfl
def Ul:AZ:={ ins:=[KA,T9],pre:=λ_=>True,out:=λ(l,s,_)=>[.p T3 (Da l s)],lend:=true }
theorem Y7:Af Tryz.prog 168 Ul:=by
 refine fK [0,1,4,5,9,18] Tryz.func168 Tryz.ntmps168 AH ?_;rintro w0 O0 ⟨l,s,u⟩ c ⟨⟨hl,-⟩,-⟩ -;simp only[AO]at hl;simp only[Ul,AM];repeat'(first|exact trivial|apply eS rfl|refine rX c ?_ ?_)
 refine AK (ι:={k:Nat//k<=l.length/\SE s k (l.drop k)=Da l s}) (λk=>⟨[(0,.p KA l),(1,.p T9 s),(5,.p (.int .i64) (k.1:Int))],[]⟩) (λk=>l.length-k.1) ⟨0,NO _,rfl⟩ (eW []) (λk=>?_)
 obtain⟨k,hk,hf⟩:=k;simp only;repeat'(first|exact trivial|apply eS rfl|apply AB|refine rX c ?_ ?_|refine rC ?_ ?_<;>intro b<;>try(cases b;done))
 .exact b
 .have a:k<l.length:=by exact eV
  rw[Y6 s l a,BY b]at hf;exact fI c [.tmp 4] (by rw[<-hf];exact eR)
 .exact eV
 .have a:k<l.length:=by exact eV
  rw[Y6 s l a,As (by rw[b];simp)]at hf;exact⟨⟨k+1,by omega,hf⟩,by simp only;omega,eW []⟩
 have a:l.drop k=[]:=RC (by exact eV);rw[a]at hf;exact fI c [.tmp 4] (by rw[<-hf];first|exact eR|refine Yw ?_;rfl)
end
section
attribute [local go_sem] WJ K7
def WO (s:List Int):Nat->List AQ->Int
 | _,[]=>-1
 | k,x :: l=>if IJ x.2 s=true then (k:Int) else WO s (k+1) l
def bQ (l:List AQ) (b:List Int):Int:=WO (BM b) 0 l
theorem WP (s:List Int) (l:List AQ) {k:Nat} (h:k<l.length):WO s k (l.drop k)=if IJ (l.getD k c0).2 s=true then (k:Int) else WO s (k+1) (l.drop (k+1)):=by
 rw[Of h];have e:l.getD k c0=l[k]:=by simp[AS,h]
 rw[e];rfl
def nI:AZ:={ ins:=[KA,BG],pre:=λ(_,b,_)=>List.length b<=100000,out:=λ(l,b,_)=>[.p T3 (bQ l b)],lend:=true }
theorem A3b:Af Tryz.prog 159 nI:=by
 refine fK [0,1,4,5,6,12,21] Tryz.func159 Tryz.ntmps159 (AF NL (AF bJ AH)) ?_;rintro w0 O0 ⟨l,b,u⟩ d ⟨⟨hl,-⟩,-⟩ e;simp only[AO]at hl;simp only[nI,AM];repeat'(first|exact trivial|apply eS rfl|refine rX d ?_ ?_)
 .exact e
 have f:bQ l b=WO (BM b) 0 l:=rfl;rw[f];generalize BM b=s at *;refine AK (ι:={k:Nat//k<=l.length/\WO s k (l.drop k)=WO s 0 l}) (λk=>⟨[(0,.p KA l),(5,.p BG s),(6,.p (.int .i64) (k.1:Int))],[]⟩) (λk=>l.length-k.1) ⟨0,NO _,rfl⟩ (eW []) (λk=>?_)
 obtain⟨k,hk,hf⟩:=k;simp only;repeat'(first|exact trivial|apply eS rfl|apply AB|refine rX d ?_ ?_|refine rC ?_ ?_<;>intro c<;>try(cases c;done))
 .exact c
 .have a:k<l.length:=by exact eV
  rw[WP s l a,BY c]at hf;exact fI d [.tmp 4] (by rw[<-hf];exact eR)
 .exact eV
 .have a:k<l.length:=by exact eV
  rw[WP s l a,As (by rw[c];simp)]at hf;exact⟨⟨k+1,by omega,hf⟩,by simp only;omega,eW []⟩
 have a:l.drop k=[]:=RC (by exact eV);rw[a]at hf;exact fI d [.tmp 4] (by rw[<-hf];first|exact eR|refine Yw ?_;rfl)
end
section
attribute [local go_sem] WJ
def gI (s:ByteArray):List (ByteArray×ByteArray)->ByteArray×Bool
 | []=>(ByteArray.empty,false)
 | x :: l=>if Ac x.1 s=true then (x.2,true) else gI s l
def Gc (x:AJ) (s:ByteArray):ByteArray×Bool:=gI s x.2.2
theorem Y8 (s:ByteArray) (l:List (ByteArray×ByteArray)) {k:Nat} (h:k<l.length):gI s (l.drop k)=if Ac (l.getD k (ByteArray.empty,ByteArray.empty)).1 s=true then ((l.getD k (ByteArray.empty,ByteArray.empty)).2,true) else gI s (l.drop (k+1)):=by
 rw[Of h];have e:l.getD k (ByteArray.empty,ByteArray.empty)=l[k]:=by simp[AS,h]
 rw[e];rfl
def bR:AZ:={ ins:=[A0h,T9],pre:=λ_=>True,out:=λ(x,s,_)=>[.p T9 (Gc x s).1,.p .bool (Gc x s).2],lend:=true }
theorem gJ:Af Tryz.prog 195 bR:=by
 refine fK [0,1,2,4,5,6,11,21] Tryz.func195 Tryz.ntmps195 AH ?_;rintro w0 O0 ⟨⟨nm,sup,a⟩,s,u⟩ d ⟨⟨-,-,f,-⟩,-⟩ -;simp only[AO]at f;simp only[bR,AM];repeat'(first|exact trivial|apply eS rfl|refine rX d ?_ ?_)
 have e:({ data:=#[] }:ByteArray).size<=AO:=by decide
 rw[BY e];refine AK (ι:={k:Nat//k<=a.length/\gI s (a.drop k)=Gc (nm,sup,a) s}) (λk=>⟨[(1,.p T9 s),(2,.bp 2 [] 0),(6,.p (.int .i64) (k.1:Int))],[(2,.box 158 true [.p T9 nm,.p GH sup,.p fZ a])]⟩) (λk=>a.length-k.1) ⟨0,NO _,rfl⟩ (eW [(2,.nm 2)]) (λk=>?_)
 obtain⟨k,hk,hf⟩:=k;simp only;repeat'(first|exact trivial|apply eS rfl|apply AB|refine rX d ?_ ?_|refine rC ?_ ?_<;>intro c<;>try(cases c;done))
 .exact c
 .assumption
 .have b:k<a.length:=by exact eV
  rw[Y8 s a b,BY c]at hf;exact fI d [.tmp 4,.tmp 5] (by rw[<-hf];exact eR)
 .exact eV
 .have b:k<a.length:=by exact eV
  rw[Y8 s a b,As (by rw[c];simp)]at hf;exact⟨⟨k+1,by omega,hf⟩,by simp only;omega,eW [(2,.nm 2)]⟩
 have b:a.drop k=[]:=RC (by exact eV);rw[b]at hf;rw[BY e];exact fI d [.tmp 4,.tmp 5] (by rw[<-hf];first|exact eR|refine Yw ?_;exact⟨rfl,rfl⟩)
end
section
attribute [local go_sem] nE
def F3 (a b:AQ):Bool:=decide (((IK b.2).length:Int)<((IK a.2).length:Int))||((IK a.2).length:Int)==((IK b.2).length:Int)&&Cf a.1 b.1
def bS:AZ:={ ins:=[bG,bG],pre:=λ(a,b,_)=>List.length (a:AQ).2<=100000/\List.length (b:AQ).2<=100000,out:=λ(a,b,_)=>[.p .bool (F3 a b)],lend:=true }
theorem A0t:Af Tryz.prog 165 bS:=by
 refine fK [0,1,2,3,4,5,6] Tryz.func165 Tryz.ntmps165 (AF A34 AH) ?_;rintro w0 O0 ⟨⟨c,ac⟩,⟨e,d⟩,u⟩ a-⟨ha,b⟩;simp only[bS,AM];repeat'(first|exact trivial|apply eS rfl|refine rX a ?_ ?_)
 .exact ha
 .exact b
 exact fI a [.tmp 4] (by unfold F3;exact eR)
end
section
attribute [local go_sem] bP Jd ofS
def Ot (low all:List ByteArray) (n:Nat):List Int:=((List.range n).filter λ(i:Nat)=>Ae low (all.getD i ByteArray.empty)).map λ(i:Nat)=>(i:Int)
theorem A0u (low all:List ByteArray) (n:Nat):Ot low all (n+1)=Ot low all n++if Ae low (all.getD n ByteArray.empty)=true then [(n:Int)] else []:=by
 unfold Ot;rw[S5,AEJ,Sw]
 congr 1
 rw[AAf,AEW];split<;>rfl
theorem A3c (low all:List ByteArray) (n:Nat):(Ot low all n).length<=n:=by
 unfold Ot;rw[OR];exact RG (AAw _ _) (by simp)
def HW (d:List AJ) (all:List ByteArray) (s:ByteArray):List Int:=(ofF (Ot (D0 d s) all all.length)).1
def A3d:AZ:={ ins:=[E8,GH,T9],pre:=λ(d,l,_,_)=>List.length d<=256/\List.length l<=100000,out:=λ(d,l,s,_)=>[.p BG (HW d l s)] }
theorem A7h:Af Tryz.prog 162 A3d:=by
 refine fK [0,1,2,6,7,8,9,10,18,26] Tryz.func162 Tryz.ntmps162 (AF A39 (AF G7 (AF AD8 AH))) ?_;rintro w0 O0 ⟨d,l,s,u⟩ b-⟨f,hl⟩;have hl:l.length<=100000:=hl;have e:HW d l s=(ofF (Ot (D0 d s) l l.length)).1:=rfl;simp only[A3d,AM];repeat'(first|exact trivial|apply eS rfl|refine rX b ?_ ?_)
 .exact f
 rw[e];generalize D0 d s=low at *;refine AK (ι:={n:Nat//n<=l.length}) (λn=>⟨[(0,.p E8 d),(1,.p GH l),(2,.p T9 s),(7,.p GH low),(8,.sr 30 T3 0 (Ot low l n.1).length),(9,.p (.int .i64) (n.1:Int))],[(30,.arr 3 T3 (Ot low l n.1))]⟩) (λn=>l.length-n.1) ⟨0,NO _⟩ (AC [(30,.nil)] rfl rfl ?_ ?_) (λn=>?_)
 .refine eM ?_;rfl
 .refine eM ?_;rfl
 obtain⟨n,hn⟩:=n;have g:=A3c low l n;have hs:=A0u low l n;simp only;repeat'(first|exact trivial|apply eS rfl|apply AB|refine rX b ?_ ?_|refine rC ?_ ?_<;>intro a<;>try(cases a;done))
 .exact a
 .rw[a,BY rfl]at hs;simp only[AO];dsimp only[Ty.den]at *;omega
 .exact eV
 .have c:n<l.length:=by exact eV
  rw[a,BY rfl]at hs;refine⟨⟨n+1,by omega⟩,by simp only;omega,AC [(30,.nm 30)] rfl rfl ?_ ?_⟩
  .simp only[hs];exact eN
  simp only[hs];exact eN
 .exact eV
 .have c:n<l.length:=by exact eV
  rw[a,As (by simp),Ra]at hs;refine⟨⟨n+1,by omega⟩,by simp only;omega,AC [(30,.nm 30)] rfl rfl ?_ ?_⟩
  .simp only[hs];exact eN
  simp only[hs];exact eN
 have c:n=l.length:=by exact eV
 subst c;refine F0 [30] ?_;repeat'(first|exact trivial|apply eS rfl|refine rX b ?_ ?_)
 exact fI b [.tmp 6]
end
section
attribute [local go_sem] bH
def OD (o:List ByteArray) (f:ByteArray×ByteArray):List ByteArray:=Dx o f.1
def Ou (o:List ByteArray) (x:AJ):List ByteArray:=x.2.2.foldl OD o
def DV (d:List AJ):List ByteArray:=d.foldl Ou []
theorem Y9 (l:List (ByteArray×ByteArray)):∀o:List ByteArray,(l.foldl OD o).length<=o.length+l.length:=by
 induction l with
 | nil=>intro o;simp
 | cons x l a =>
  intro o;have h1:=a (OD o x);have b:(OD o x).length<=o.length+1:=MH o x.1;simp only[RE,No];omega
theorem nJ {d:List AJ} (h:∀x∈d,x.2.2.length<=256):∀(l:List AJ),(∀x∈l,x∈d)->∀o:List ByteArray,(l.foldl Ou o).length<=o.length+256*l.length:=by
 intro l;induction l with
 | nil=>intro _ o;simp
 | cons x l b =>
  intro hl o;have h1:=b (λy a=>hl y (by simp[a])) (Ou o x);have c:=Y9 x.2.2 o;have e:=h x (hl x (by simp));have f:(Ou o x).length=(x.2.2.foldl OD o).length:=rfl;simp only[RE,No];omega
def WQ:AZ:={ ins:=[E8],pre:=λ(d,_)=>List.length d<=256/\(∀x∈(d:List AJ),x.2.2.length<=256),out:=λ(d,_)=>[.p GH (DV d)] }
theorem WR:Af Tryz.prog 157 WQ:=by
 refine fK [0,2,3,4,5,9,19] Tryz.func157 Tryz.ntmps157 (AF R8 AH) ?_;rintro w0 O0 ⟨d,u⟩ c-⟨f,hx⟩;have f:d.length<=256:=f;simp only[WQ,AM];repeat'(first|exact trivial|apply eS rfl|refine rX c ?_ ?_)
 refine AK (ι:={i:Nat//i<=d.length}) (λi=>⟨[(0,.p E8 d),(3,.p GH (DV (d.take i.1))),(4,.p (.int .i64) (i.1:Int))],[]⟩) (λi=>d.length-i.1) ⟨0,NO _⟩ (AC [] rfl rfl ?_ ?_) (λi=>?_)
 .exact eN
 .refine eM ?_;rfl
 obtain⟨i,hi⟩:=i;have l:=nJ hx (d.take i) (λx h=>S4 h) [];have s:=tO i d;have hs:=λh:i<d.length=>Ew Ou d d0 [] h;have g:∀e,DV e=e.foldl Ou []:=λ_=>rfl;simp only;repeat'(first|exact trivial|apply eS rfl|refine rX c ?_ ?_|refine rC ?_ ?_<;>intro a<;>try(cases a;done))
 .have j:i<d.length:=by exact eV
  have t:=hx _ (AE d d0 j);have hs:=hs j;rw[<-g,<-g]at hs;rw[<-g]at l;generalize DV (d.take i)=o at *;refine AK (ι:={k:Nat//k<=(d.getD i d0).2.2.length}) (λk=>⟨[(0,.p E8 d),(3,.p GH (((d.getD i d0).2.2.take k.1).foldl OD o)),(4,.p (.int .i64) (i:Int)),(5,.p (.int .i64) (k.1:Int))],[]⟩) (λk=>(d.getD i d0).2.2.length-k.1) ⟨0,NO _⟩ (AC [] rfl rfl ?_ ?_) (λk=>?_)
  .exact eN
  .refine eM ?_;rfl
  obtain⟨k,hk⟩:=k;have q:k<=(d.getD i d0).2.2.length:=hk;have n:=Y9 ((d.getD i d0).2.2.take k) o;have r:=tO k (d.getD i d0).2.2;have m:=λh:k<(d.getD i d0).2.2.length=>Ew OD (d.getD i d0).2.2 (ByteArray.empty,ByteArray.empty) o h;simp only;repeat'(first|apply eS rfl|apply AB|refine rX c ?_ ?_|refine rC ?_ ?_<;>intro a<;>try(cases a;done))
  .assumption
  .refine⟨by assumption,a,?_⟩;simp only[AAg]at l;dsimp only[Ty.den]at *;omega
  .have h1:(k:Int)<((d.getD i d0).2.2.length:Int):=a;exact eV
  .have b:k<(d.getD i d0).2.2.length:=IN.1 a;have e:=m b;refine⟨⟨k+1,b⟩,by simp only;omega,AC [] rfl rfl ?_ ?_⟩
   .exact eN
   simp only[e];unfold OD;exact eN
  .have:=f;exact eV
  have b:(d.getD i d0).2.2.take k=(d.getD i d0).2.2:=At (RJ.1 a);have e:DV (d.take (i+1))=((d.getD i d0).2.2.take k).foldl OD o:=by rw[b];exact hs
  refine⟨⟨i+1,j⟩,by simp only;omega,AC [] rfl rfl ?_ ?_⟩
  .exact eN
  simp only[e];exact eN
 have b:d.take i=d:=At (by exact eV);rw[b];exact fI c [.tmp 2]
end
theorem ZA {d:List AJ} {l:List ByteArray}:∀ {r:List ByteArray} {k:Nat},UR d l k r=0->∀s∈r,0<=BH d s
 | [],_,_,s,hs=>by cases hs
 | x :: r,k,h,s,hs=>by
  simp only[UR]at h;split at h
  .cases h
  rename_i h1;split at h
  .cases h
  rcases DO.1 hs with rfl|hs
  .omega
  exact ZA h s hs
theorem QZ {d:List AJ}:∀ {l:List AJ},K8 d l=0->∀x∈l,∀s∈x.2.1,0<=BH d s
 | [],_,x,hx=>by cases hx
 | y :: l,h,x,hx=>by
  simp only[K8]at h;split at h
  .rename_i h1;exact absurd h h1
  rename_i h1;rcases DO.1 hx with rfl|hx
  .exact ZA (FT h1)
  exact QZ h x hx
theorem A3e {d:List AJ} (h:K9 d=0):WK d:=QZ h
theorem BB {d:List AJ} (h:BS d=0):WK d/\d.length<=256/\X1 d=1/\Dy d=0/\d.length<=(Bj d).length:=by
 unfold BS at h;split at h
 .rename_i h1;exact absurd h h1
 rename_i h1;split at h
 .rename_i a;exact absurd h a
 rename_i a;split at h
 .rename_i b;exact absurd h b
 rename_i b;split at h
 .cases h
 rename_i c;split at h
 .cases h
 rename_i e;exact⟨A3e (FT b),Tf (FT h1),FT c,FT a,by omega⟩
section
attribute [local go_sem] A9C A31
def HL (l:List (List Int)) (i k:Nat):List (List Int) :=
 if (decide (0<((GJ (l.getD i []) (l.getD k [])).length:Int))&&!nH l (GJ (l.getD i []) (l.getD k [])))=true then l++[GJ (l.getD i []) (l.getD k [])] else l
def HN (i:Nat):Nat->Nat->List (List Int)->List (List Int)
 | 0,_,l=>l
 | n+1,k,l=>if l.length<=256 then HN i n (k+1) (HL l i k) else l
def Jg:Nat->Nat->List (List Int)->List (List Int)
 | 0,_,l=>l
 | n+1,i,l=>if i<l.length/\l.length<=256 then Jg n (i+1) (HN i i 0 l) else l
def A6 (c:List (List Int)):List (List Int):=Jg 257 0 c
theorem gK (a b:List Int):(GJ a b).length<=a.length:=by
 unfold GJ BM;have:=El .and a b a.length;rw[OS];omega
structure A8P (l:List (List Int)):Prop where
 len:l.length<=257
 wid:∀c∈l,c.length<=64
theorem MN {l:List (List Int)} (h:∀c∈l,c.length<=64) (k:Nat):(l.getD k []).length<=64:=by
 rw[AS];cases hh:l[k]? with
 | none=>simp
 | some x=>exact h x (oF hh)
theorem gL {l:List (List Int)} (h:∀c∈l,c.length<=64) (i k:Nat):∀c∈HL l i k,c.length<=64:=by
 unfold HL;split
 .intro c a;rcases Is.1 a with a|a
  .exact h c a
  have:c=GJ (l.getD i []) (l.getD k []):=by simpa using a
  rw[this];exact RG (gK _ _) (MN h i)
 exact h
theorem A3f (l:List (List Int)) (i k:Nat):l.length<=(HL l i k).length/\(HL l i k).length<=l.length+1:=by
 unfold HL;split
 .simp
 exact⟨If _,Nat.le_succ _⟩
def bT:AZ:={ ins:=[UQ],pre:=λ(c,_)=>List.length c<=256/\∀x∈(c:List (List Int)),x.length<=64,out:=λ(c,_)=>[.p UQ (A6 c)] }
theorem A0v:Af Tryz.prog 163 bT:=by
 refine fK [0,2,3,4,5,6,18,28,48] Tryz.func163 Tryz.ntmps163 (AF nB (AF A9D AH)) ?_;rintro w0 O0 ⟨c,u⟩ d-⟨n,t⟩;have n:c.length<=256:=n;simp only[bT,AM];repeat'(first|exact trivial|apply eS rfl|refine rX d ?_ ?_)
 .simp only[AO];dsimp only[Ty.den]at *;omega
 refine AK (ι:={x:Nat×List (List Int)//x.1<=256/\A8P x.2/\Jg (257-x.1) x.1 x.2=A6 c}) (λx=>⟨[(3,.sr 7 BG 0 x.1.2.length),(4,.p (.int .i64) (x.1.1:Int))],[(7,.arr 140 BG x.1.2)]⟩) (λx=>257-x.1.1) ⟨(0,c),by simp,⟨by simp only;omega,t⟩,rfl⟩ (eW [(7,.nm 7)]) (λx=>?_)
 obtain⟨⟨i,l⟩,hi,⟨q,s⟩,f⟩:=x;simp only at hi q s f;simp only;repeat'(first|exact trivial|apply eS rfl|refine rX d ?_ ?_|refine rC ?_ ?_<;>intro a<;>try(cases a;done))
 .have w:i<l.length:=by omega
  have z:l.length<=256:=by omega
  have o:Jg (256-i) (i+1) (HN i i 0 l)=A6 c:=by
   have e:257-i=(256-i)+1:=by omega
   rw[<-f,e];show _=if i<l.length/\l.length<=256 then Jg (256-i) (i+1) (HN i i 0 l) else l
   rw[BY ⟨w,z⟩]
  refine AK (ι:={y:Nat×List (List Int)//y.1<=i/\A8P y.2/\l.length<=y.2.length/\HN i (i-y.1) y.1 y.2=HN i i 0 l}) (λy=>⟨[(3,.sr 7 BG 0 y.1.2.length),(4,.p (.int .i64) (i:Int)),(5,.p (.int .i64) (y.1.1:Int))],[(7,.arr 140 BG y.1.2)]⟩) (λy=>i-y.1.1) ⟨(0,l),by simp,⟨q,s⟩,If _,rfl⟩ (eW [(7,.nm 7)]) (λy=>?_)
  obtain⟨⟨k,m⟩,hk,⟨g,b⟩,r,hf⟩:=y;simp only at hk g b r hf;simp only;repeat'(first|exact trivial|apply eS rfl|apply AB|refine rX d ?_ ?_|refine rC ?_ ?_<;>intro a<;>try(cases a;done))
  .exact⟨by exact eV,by exact eV,RG (MN b i) (by decide)⟩
  .simp only[AO];omega
  .omega
  .have e:HL m i k=m++[GJ (m.getD i []) (m.getD k [])]:=by
    unfold HL;rw[BY];rw[An,Do,RH];exact a
   have C:=gL b i k;have D:=A3f m i k;refine⟨⟨(k+1,HL m i k),by simp only;omega,⟨by simp only;omega,C⟩,by simp only;omega,?_⟩,by simp only;omega,AC [(7,.nm 7)] rfl rfl ?_ ?_⟩
   .simp only;rw[<-hf,show i-k=(i-(k+1))+1 by omega];show _=if m.length<=256 then HN i (i-(k+1)) (k+1) (HL m i k) else m
    rw[BY (by omega)]
   .simp only[e];exact eN
   simp only[e];exact eN
  .omega
  .have e:HL m i k=m:=by
    unfold HL;rw[As];rw[An,Do,RH];intro h;rw[a h.1]at h;exact absurd h.2 (by simp)
   refine⟨⟨(k+1,m),by simp only;omega,⟨g,b⟩,r,?_⟩,by simp only;omega,AC [(7,.nm 7)] rfl rfl ?_ ?_⟩
   .simp only;rw[<-hf,show i-k=(i-(k+1))+1 by omega];show _=if m.length<=256 then HN i (i-(k+1)) (k+1) (HL m i k) else m
    rw[BY (by omega),e]
   .exact eN
   exact eN
  .omega
  have B:m=HN i i 0 l:=by
   rw[<-hf];cases A:i-k with
   | zero=>rfl
   | succ j =>
    show _=if m.length<=256 then _ else m
    rw[As (by omega)]
  rw[<-B]at o;refine⟨⟨(i+1,m),by simp only;omega,⟨g,b⟩,?_⟩,by simp only;omega,AC [(7,.nm 7)] rfl rfl ?_ ?_⟩
  .simp only;rw[show 257-(i+1)=256-i by omega];exact o
  .exact eN
  exact eN
 have v:l=A6 c:=by
  rw[<-f];cases A:257-i with
  | zero=>rfl
  | succ m =>
   show _=if i<l.length/\l.length<=256 then _ else l
   rw[As (by omega)]
 rw[<-v];refine F0 [7] ?_;exact fI d [.tmp 2]
theorem cs0 {α:Type} (x y:α):(if ({ data:=#[] }:ByteArray).size<=AO then x else y)=x:=BY (by show 0<=AO;decide)
theorem cs1 {α:Type} (a:UInt8) (x y:α):(if ({ data:=#[a] }:ByteArray).size<=AO then x else y)=x:=BY (by show 1<=AO;decide)
theorem cs2 {α:Type} (a b:UInt8) (x y:α):(if ({ data:=#[a,b] }:ByteArray).size<=AO then x else y)=x:=BY (by show 2<=AO;decide)
theorem cs3 {α:Type} (a b c:UInt8) (x y:α):(if ({ data:=#[a,b,c] }:ByteArray).size<=AO then x else y)=x:=BY (by show 3<=AO;decide)
theorem cs4 {α:Type} (a b c d:UInt8) (x y:α):(if ({ data:=#[a,b,c,d] }:ByteArray).size<=AO then x else y)=x:=BY (by show 4<=AO;decide)
theorem cs5 {α:Type} (a b c d e:UInt8) (x y:α):(if ({ data:=#[a,b,c,d,e] }:ByteArray).size<=AO then x else y)=x:=BY (by show 5<=AO;decide)
theorem cs6 {α:Type} (a b c d e f:UInt8) (x y:α):(if ({ data:=#[a,b,c,d,e,f] }:ByteArray).size<=AO then x else y)=x:=BY (by show 6<=AO;decide)
theorem cs7 {α:Type} (a b c d e f g:UInt8) (x y:α):(if ({ data:=#[a,b,c,d,e,f,g] }:ByteArray).size<=AO then x else y)=x:=BY (by show 7<=AO;decide)
theorem cs8 {α:Type} (a b c d e f g h:UInt8) (x y:α):(if ({ data:=#[a,b,c,d,e,f,g,h] }:ByteArray).size<=AO then x else y)=x:=BY (by show 8<=AO;decide)
end
def BZ (b:List Int) (i:Nat):Bool:=(b.getD (i / 64) 0).toNat.testBit (i % 64)
def U64 (x:Int):Prop:=0<=x/\x<18446744073709551616
theorem Fa {x:Int} (h:U64 x):(BitVec.ofInt 64 x).toNat=x.toNat:=by
 rw[BitVec.toNat_ofInt];have h1:=h.1;have a:=h.2;rw[Int.emod_eq_of_lt h1 (by simpa using a)]
theorem Qa {n:Nat} (h:n<18446744073709551616):IntKind.u64.wrap (n:Int)=n:=Kr (by rw[JA];omega)
theorem A7i {x y:Int} (hx:U64 x) (a:U64 y):B6 .or .u64 x y=((x.toNat ||| y.toNat:Nat):Int):=by
 have h1:(BitVec.ofInt IntKind.u64.bits x ||| BitVec.ofInt IntKind.u64.bits y).toNat=x.toNat ||| y.toNat:=by
  rw[BitVec.toNat_or];show (BitVec.ofInt 64 x).toNat ||| (BitVec.ofInt 64 y).toNat=_
  rw[Fa hx,Fa a]
 unfold B6;simp only;rw[h1];have e:(18446744073709551616:Nat)=2 ^ 64:=by decide
 refine Qa ?_;rw[e];refine Nat.or_lt_two_pow ?_ ?_
 .have:=hx.2;have:=hx.1;omega
 have:=a.2;have:=a.1;omega
theorem IP {x y:Int} (hx:U64 x) (a:U64 y):B6 .and .u64 x y=((x.toNat &&& y.toNat:Nat):Int):=by
 have h1:(BitVec.ofInt IntKind.u64.bits x &&& BitVec.ofInt IntKind.u64.bits y).toNat=x.toNat &&& y.toNat:=by
  rw[BitVec.toNat_and];show (BitVec.ofInt 64 x).toNat &&& (BitVec.ofInt 64 y).toNat=_;rw[Fa hx,Fa a]
 unfold B6;simp only;rw[h1];refine Qa (AFd AF9 ?_);have:=hx.2;have:=hx.1;omega
theorem SF {x y:Int}:B6 .andNot .u64 x y=((BitVec.ofInt 64 x &&& ~~~BitVec.ofInt 64 y).toNat:Int):=by
 show IntKind.u64.wrap ((BitVec.ofInt 64 x &&& ~~~BitVec.ofInt 64 y).toNat:Int)=_;exact Qa (BitVec.isLt _)
theorem Tg {x y:Int} (hx:U64 x) (d:U64 y) (h:B6 .andNot .u64 x y=0) {r:Nat} (c:r<64) (b:x.toNat.testBit r=true):y.toNat.testBit r=true:=by
 rw[SF]at h;have h1:(BitVec.ofInt 64 x &&& ~~~BitVec.ofInt 64 y).toNat=0:=by omega
 have a:(BitVec.ofInt 64 x &&& ~~~BitVec.ofInt 64 y).toNat.testBit r=false:=by rw[h1];exact Nat.zero_testBit r
 rw[AEx,BitVec.getLsbD_and,BitVec.getLsbD_not,<-AEx,<-AEx,Fa hx,Fa d,b]at a;simpa[c] using a
theorem Th {x:Int}:B6 .andNot .u64 x x=0:=by
 rw[SF];simp
theorem Ov {b:List Int}:∀ {n:Nat},∀k,Cs b n<=k->k<n->b.getD k 0=0
 | 0,k,_,h=>by omega
 | n+1,k,h1,c=>by
  unfold Cs at h1;split at h1
  .rename_i a;by_cases hk:k=n
   .rw[hk];exact a
   exact Ov k h1 (by omega)
  omega
theorem Qb (b:List Int) (k:Nat):(BM b).getD k 0=b.getD k 0:=by
 unfold BM;by_cases h:k<Cs b b.length
 .simp[AS,Sz,h]
 have h1:(List.take (Cs b b.length) b).getD k 0=0:=by
  rw[AS,Sz,As h];rfl
 rw[h1];by_cases a:k<b.length
 .exact(Ov k (by omega) a).symm
 rw[AS,RP (by omega)];rfl
theorem Ow (b:List Int) (i:Nat):BZ (BM b) i=BZ b i:=by unfold BZ;rw[Qb]
def JJ (b:List Int):Prop:=∀x∈b,U64 x
theorem BC {b:List Int} (h:JJ b) (k:Nat):U64 (b.getD k 0):=by
 rw[AS];cases hh:b[k]? with
 | none=>exact⟨by simp,by simp⟩
 | some x=>exact h x (oF hh)
theorem Ox {b:List Int} (h:JJ b):JJ (BM b):=λx hx=>h x (S4 hx)
theorem Hq (b:List Int) (k:Nat):GL b (k:Int)=b.getD k 0:=by
 unfold GL;split
 .simp
 rename_i h;rw[AS,RP (by omega)];rfl
theorem NM (op:BinOp) (a b:List Int) {n k:Nat} (h:k<n):(Gb op a b n).getD k 0=B6 op .u64 (a.getD k 0) (b.getD k 0):=by
 unfold Gb;rw[AS,gO,AE8 h];show B6 op .u64 (a.getD k 0) (GL b (k:Int))=_;rw[Hq]
theorem bU {a b:List Int} (h:Eu a b=true) {k:Nat} (hk:k<a.length):B6 .andNot .u64 (a.getD k 0) (b.getD k 0)=0:=by
 unfold Eu R9 BM at h;have h1:(List.take (Cs (Gb .andNot a b a.length) (Gb .andNot a b a.length).length) (Gb .andNot a b a.length)).length=0:=by
  have:=S1.1 h;omega
 rw[OS,El]at h1;have d:=WH (Gb .andNot a b a.length) a.length;have c:=Ov (b:=Gb .andNot a b a.length) (n:=a.length) k (by omega) hk;rw[NM _ _ _ hk]at c;exact c
theorem MO {a b:List Int} (ha:JJ a) (c:JJ b) (h:Eu a b=true) {i:Nat} (hi:BZ a i=true):BZ b i=true:=by
 by_cases hk:i / 64<a.length
 .exact Tg (BC ha _) (BC c _) (bU h hk) (AFF _ (by decide)) hi
 exfalso;unfold BZ at hi;rw[AS,RP (by omega)]at hi;simp at hi
theorem SG {b:List Int}:∀ {n:Nat},(∀k,k<n->b.getD k 0=0)->Cs b n=0
 | 0,_=>rfl
 | n+1,h=>by
  unfold Cs;rw[BY (h n (by omega))];exact SG λk hk=>h k (by omega)
theorem gM (a:List Int):Eu a a=true:=by
 unfold Eu R9 BM;have h1:Cs (Gb .andNot a a a.length) (Gb .andNot a a a.length).length=0:=by
  rw[El];exact SG λk hk=>by rw[NM _ _ _ hk];exact Th
 rw[h1];rfl
theorem gP (a:List Int):F2 a a=true:=by unfold F2;rw[gM];rfl
theorem A7j {b:List Int} (f:JJ b) (hl:b.length=64) {x:Int} (h0:0<=x) (h1:x<=4095) (i:Nat):BZ (ofA b x) i=(BZ b i||decide (x=(i:Int))):=by
 have e1:Int.tdiv x 64=x / 64:=AAd h0;have e2:Int.tmod x 64=x % 64:=AEp h0;obtain⟨n,rfl⟩:∃n:Nat,x=(n:Int):=⟨x.toNat,by omega⟩;have hs:UJ .u64 1 ((n:Int) % 64)=((2 ^ (n % 64):Nat):Int):=by
  unfold UJ;have d:min ((n:Int) % 64).toNat IntKind.u64.bits=n % 64:=by
   have:((n:Int) % 64).toNat=n % 64:=by omega
   rw[this];have:IntKind.u64.bits=64:=rfl;omega
  rw[d,Int.one_mul];have:(2:Int) ^ (n % 64)=((2 ^ (n % 64):Nat):Int):=by simp
  rw[this];refine Qa ?_;have a:(2:Nat) ^ (n % 64)<2 ^ 64:=Nat.pow_lt_pow_right (by decide) (AFF _ (by decide));exact a
 have hu:U64 (UJ .u64 1 ((n:Int) % 64)):=by
  rw[hs];have a:(2:Nat) ^ (n % 64)<2 ^ 64:=Nat.pow_lt_pow_right (by decide) (AFF _ (by decide));have e:(2:Nat) ^ 64=18446744073709551616:=by decide
  refine⟨ADD _,?_⟩;rw[e]at a;exact IN.2 a
 have hn:((n:Int) / 64).toNat=n / 64:=by omega
 unfold ofA BZ;rw[e1,e2,hn];by_cases c:i / 64=n / 64
 .have g:n / 64<b.length:=by omega
  rw[c];have:(b.set (n / 64) (B6 .or .u64 (b.getD (n / 64) 0) (UJ .u64 1 ((n:Int) % 64)))).getD (n / 64) 0=B6 .or .u64 (b.getD (n / 64) 0) (UJ .u64 1 ((n:Int) % 64)):=by
   simp[AS,g]
  rw[this,A7i (BC f _) hu,hs];simp only[RK,Nat.testBit_or,Nat.testBit_two_pow]
  congr 1
  rw[decide_eq_decide];omega
 have:(b.set (n / 64) (B6 .or .u64 (b.getD (n / 64) 0) (UJ .u64 1 ((n:Int) % 64)))).getD (i / 64) 0=b.getD (i / 64) 0:=by
  simp[AS,ADt,Ne.symm c]
 rw[this];have:decide ((n:Int)=(i:Int))=false:=by
  rw[On];intro h;exact c (by omega)
 rw[this,Bool.or_false]
theorem A7k {b:List Int} (c:JJ b) (x:Int):JJ (ofA b x):=by
 intro y a;unfold ofA at a;rcases AEc a with h|h
 .exact c y h
 rw[h];have:=M3 .u64 ((BitVec.ofInt IntKind.u64.bits (b.getD (x.tdiv 64).toNat 0) ||| BitVec.ofInt IntKind.u64.bits (UJ .u64 1 (x.tmod 64))).toNat:Int);rw[JA]at this;exact⟨this.1,by have:=this.2;show _<_;exact AFm this (by decide)⟩
theorem A7l {l:List Int} (h:l.all okB=true) (i:Nat):BZ (ofL l) i=decide ((i:Int)∈l)/\JJ (ofL l):=by
 have key:∀(l b:List Int),l.all okB=true->JJ b->b.length=64->BZ (l.foldl ofA b) i=(BZ b i||decide ((i:Int)∈l))/\JJ (l.foldl ofA b):=by
  intro l;induction l with
  | nil=>intro b _ a _;simp[a]
  | cons x l j =>
   intro b c a hl;rw[ADS,An]at c;have hx:=c.1;unfold okB at hx;rw[RH,oN,On,On]at hx;obtain⟨d,e⟩:=j (ofA b x) c.2 (A7k a x) (by simp[ofA,hl]);rw[RE];refine⟨?_,e⟩;rw[d,A7j a hl (by omega) (by omega),Bool.or_assoc]
   congr 1
   rw[<-Bool.decide_or,decide_eq_decide,DO,eq_comm]
 have f:JJ (List.replicate 64 (0:Int)):=by
  intro y g;rw[(List.mem_replicate.1 g).2];exact⟨by decide,by decide⟩
 have h1:=key l (List.replicate 64 0) h f (by simp);refine⟨?_,h1.2⟩;unfold ofL;rw[h1.1];have:BZ (List.replicate 64 (0:Int)) i=false:=by
  unfold BZ;have:(List.replicate 64 (0:Int)).getD (i / 64) 0=0:=by
   rw[AS,AEk];split<;>rfl
  rw[this];simp
 rw[this,Bool.false_or]
theorem A3h {low all:List ByteArray} {n i:Nat}:((i:Int)∈Ot low all n)↔i<n/\Ae low (all.getD i ByteArray.empty)=true:=by
 unfold Ot;rw[GO];constructor
 .rintro⟨j,a,e⟩;have:j=i:=by omega
  subst this;rw[ADR,RY]at a;exact a
 rintro⟨h1,b⟩;exact⟨i,by rw[ADR,RY];exact⟨h1,b⟩,rfl⟩
theorem A7m {low all:List ByteArray} {n:Nat} (hn:n<=4096):(Ot low all n).all okB=true:=by
 rw[ON];intro x hx;unfold Ot at hx;obtain⟨j,a,rfl⟩:=GO.1 hx;rw[ADR,RY]at a;unfold okB;rw[RH,oN,On,On];exact⟨by omega,by omega⟩
theorem Em {d:List AJ} {all:List ByteArray} (hl:all.length<=4096) (s:ByteArray) (i:Nat):(BZ (HW d all s) i=true↔i<all.length/\Ae (D0 d s) (all.getD i ByteArray.empty)=true)/\JJ (HW d all s)/\(HW d all s).length<=64:=by
 have h1:=A7m (low:=D0 d s) (all:=all) hl;have b:=A7l h1 i;have a:HW d all s=BM (ofL (Ot (D0 d s) all all.length)):=by
  unfold HW ofF;rw[BY h1]
 refine⟨?_,?_,?_⟩
 .rw[a,Ow,b.1,Do,A3h]
 .rw[a];exact Ox b.2
 rw[a];unfold BM;have:=QY (Ot (D0 d s) all all.length);rw[OS];omega
theorem Ti (d:List AJ) {s t:ByteArray} (h:Ac s t=true):BH d s=BH d t:=by
 have key:∀(l:List AJ) (k:Nat),Ct s k l=Ct t k l:=by
  intro l;induction l with
  | nil=>intro k;rfl
  | cons x l a =>
   intro k;simp only[Ct];have:Ac x.1 s=Ac x.1 t:=by grind [Ac,DM,FN]
   rw[this,a]
 exact key d 0
theorem Dg {α:Type} {l:List α} {d:α} {k:Nat} (h:k<l.length):l.getD k d∈l:=by grind
theorem Cu {α:Type} {l:List α} (d:α) {x:α} (h:x∈l):∃k,k<l.length/\l.getD k d=x:=by
 obtain⟨k,hk,e⟩:=ADu.1 h;exact⟨k,hk,by rw[AS,AT hk];exact e⟩
theorem MP {d:List AJ}:∀ {r:List AJ} {k:Nat},Om d k r=0->∀j,j<r.length->¬BH d (r.getD j d0).1<((k+j:Nat):Int)/\E6 (r.getD j d0).1 false=true
 | [],_,_,j,a=>by simp at a
 | x :: r,k,h,j,a=>by
  simp only[Om]at h;split at h
  .cases h
  rename_i h1;split at h
  .cases h
  rename_i b;cases j with
  | zero=>exact⟨b,by simpa using h1⟩
  | succ j =>
   have:=MP h j (by simpa using a);have e:k+(j+1)=k+1+j:=by omega
   rw[e];exact this
theorem Qc (s:ByteArray):∀(l:List AJ) (k j:Nat),j<l.length->Ac (l.getD j d0).1 s=true->Ct s k l<=((k+j:Nat):Int)
 | [],_,j,h,_=>by simp at h
 | x :: l,k,j,h,e=>by
  simp only[Ct];split
  .omega
  rename_i h1;cases j with
  | zero=>exact absurd e h1
  | succ j =>
   have:=Qc s l (k+1) j (by simpa using h) e;omega
theorem WT {d:List AJ} (h:Dy d=0) {j:Nat} (b:j<d.length):BH d (d.getD j d0).1=(j:Int):=by
 have h1:=(MP h j b).1;have a:=Qc (d.getD j d0).1 d 0 j b (FM _);rw[AE4]at h1 a;have a:BH d (d.getD j d0).1<=(j:Int):=a;omega
theorem gR {d:List AJ} (h:Dy d=0) {x y:AJ} (hx:x∈d) (a:y∈d) (e:Ac x.1 y.1=true):x=y:=by
 obtain⟨i,hi,rfl⟩:=Cu d0 hx;obtain⟨j,b,rfl⟩:=Cu d0 a;grind [WT,Ti]
theorem nK (d:List AJ) (out:List ByteArray) (h:(IL d out).1=true):∃x∈d,x.1=(IL d out).2/\Ae out x.1=false/\Je x out=true:=by
 have key:∀(l:List AJ) (s:Bool×ByteArray),(∀x∈l,x∈d)->(s.1=true->∃x∈d,x.1=s.2/\Ae out x.1=false/\Je x out=true)->(l.foldl (JG out) s).1=true ->
   ∃x∈d,x.1=(l.foldl (JG out) s).2/\Ae out x.1=false/\Je x out=true:=by
  intro l;induction l with
  | nil=>intro s _ hs h;exact hs h
  | cons y l a =>
   intro s hl hs h;rw[RE]at h ⊢;refine a _ (λx hx=>hl x (by simp[hx])) (λhp=>?_) h;unfold JG at hp ⊢;split
   .grind
   grind
 exact key d _ (λ_ h=>h) (λh=>by cases h) h
def PL (d:List AJ) (o:List ByteArray):Prop:=∀j,j<o.length->∃x∈d,x.1=o.getD j ByteArray.empty/\Ae (o.take j) x.1=false/\Je x (o.take j)=true
theorem PL.snoc {d:List AJ} {o:List ByteArray} (h:PL d o) {x:AJ} (hx:x∈d) (h1:Ae o x.1=false) (c:Je x o=true):PL d (o++[x.1]):=by
 intro j e;by_cases a:j<o.length
 .obtain⟨y,f,e1,e2,b⟩:=h j a;grind
 grind
theorem WU {d:List AJ}:∀ {n:Nat} {o:List ByteArray},PL d o->PL d (JH d n o)
 | 0,_,h=>h
 | n+1,o,h=>by
  unfold JH;split
  .rename_i hp;obtain⟨x,hx,e,h1,a⟩:=nK d o hp;rw[<-e];exact WU (h.snoc hx h1 a)
  exact h
theorem ZB (d:List AJ):PL d (Bj d):=WU λj a=>by simp at a
theorem PL.ok {d:List AJ} {o:List ByteArray} (h:PL d o):dV d o:=by
 refine⟨λs hs=>?_,?_⟩
 .obtain⟨j,a,rfl⟩:=Cu ByteArray.empty hs;obtain⟨x,hx,e,-⟩:=h j a;rw[<-e];exact FO hx
 rw[RR];intro i j hi a c;obtain⟨x,hx,e,h1,-⟩:=h j a;have b:=QX h1 o[i] (by rw[AEv];exact⟨i,by omega,rfl⟩);grind
theorem nL {n:Nat} {l:List Nat} (h:l.Nodup) (hl:∀j∈l,j<n) (hn:n<=l.length) {k:Nat} (hk:k<n):k∈l:=by
 refine FT λb=>?_;have:=EM n (k :: l) (TO.2 ⟨b,h⟩) (λj a=>by
  rcases DO.1 a with rfl|a
  .exact hk
  exact hl j a)
 simp at this;omega
theorem nM {d:List AJ} (hl:d.length<=(Bj d).length) {x:AJ} (hx:x∈d):∃s∈Bj d,Ac s x.1=true:=by
 have a:=(ZB d).ok;have h1:=LB d a;have h0:=FO hx;have h:=Dp d x.1;have b:=nL (n:=d.length) h1 (λj c=>by
  obtain⟨s,hs,rfl⟩:=GO.1 c;have h1:=a.decl s hs;rcases Dp d s with g|⟨_,g,_⟩<;>omega) (by simpa using hl) (k:=(BH d x.1).toNat) (by omega)
 obtain⟨s,hs,e⟩:=GO.1 b;refine⟨s,hs,?_⟩;rcases Dp d s with g|⟨_,_,f⟩
 .have:=a.decl s hs;omega
 grind [DM,FN]
def IQ (d:List AJ) (s:ByteArray):Nat:=(Bj d).findIdx λx=>Ac x s
theorem Oy (d:List AJ) {s t:ByteArray} (h:Ac s t=true):IQ d s=IQ d t:=by grind [IQ,Ac,DM,FN]
theorem Oz {d:List AJ} (hn:Dy d=0) (hl:d.length<=(Bj d).length) {x:AJ} (hx:x∈d) {s:ByteArray} (hs:Ae x.2.1 s=true):IQ d s<IQ d x.1:=by
 obtain⟨t,m,e⟩:=nM hl hx;have b:IQ d x.1<(Bj d).length:=List.findIdx_lt_length_of_exists ⟨t,m,e⟩;have heq:Ac ((Bj d)[IQ d x.1]) x.1=true:=List.findIdx_getElem (w:=b);obtain⟨y,n,e1,-,g⟩:=ZB d (IQ d x.1) b;rw[AS,AT b]at e1;have e1:y.1=(Bj d)[IQ d x.1]:=e1;rw[<-e1]at heq;have o:=gR hn n hx heq;subst o;obtain⟨u,hu,f⟩:=RT.1 hs;have h:Ae ((Bj d).take (IQ d y.1)) u=true:=ON.1 g u hu;obtain⟨v,c,ev⟩:=RT.1 h;rw[AEv]at c;obtain⟨i,hi,rfl⟩:=c;have l:i<IQ d y.1:=by omega
 refine AFd ?_ l;refine FT λk=>?_;have a:=List.not_of_lt_findIdx (p:=λx=>Ac x s) (xs:=Bj d) (i:=i) (by unfold IQ at k;omega);have j:Ac ((Bj d)[i]) s=true:=DM ev f;try simp only at a
 rw[j]at a;exact absurd a (by simp)
def YJ (d:List AJ) (s x:ByteArray):Prop:=Ac s x=true\/IQ d s<IQ d x
theorem A0x {d:List AJ} (hn:Dy d=0) (hl:d.length<=(Bj d).length) {s c:ByteArray} (b:YJ d s c) {o:List ByteArray} (e:∀x∈o,YJ d s x) {x:AJ} (hx:x∈d):∀y∈Fi c o x,YJ d s y:=by
 intro y a;unfold Fi at a;split at a
 .rename_i h;rw[An]at h;rcases Is.1 a with a|a
  .exact e y a
  have:y=x.1:=by simpa using a
  subst this;have h1:=Oz hn hl hx h.1;right;rcases b with b|b
  .rw[Oy d b];exact h1
  omega
 exact e y a
theorem WV {d:List AJ} (hn:Dy d=0) (hl:d.length<=(Bj d).length) {s c:ByteArray} (b:YJ d s c):∀ {l:List AJ} {o:List ByteArray},(∀x∈l,x∈d)->(∀x∈o,YJ d s x)->∀y∈l.foldl (Fi c) o,YJ d s y
 | [],_,_,a=>a
 | x :: l,o,hx,a=>by
  rw[RE];exact WV hn hl b (λy e=>hx y (by simp[e])) (A0x hn hl b a (hx x (by simp)))
theorem Tj {d:List AJ} (hn:Dy d=0) (hl:d.length<=(Bj d).length) {s:ByteArray}:∀ {n i:Nat} {o:List ByteArray},(∀x∈o,YJ d s x)->∀y∈Dz d n i o,YJ d s y
 | 0,_,_,a=>a
 | n+1,i,o,a=>by
  unfold Dz;split
  .rename_i hi;exact Tj hn hl (WV hn hl (a _ (Dg hi)) (λ_ h=>h) a)
  exact a
theorem A3i {c:ByteArray} {o:List ByteArray} {x:AJ} {y:ByteArray} (h:y∈o):y∈Fi c o x:=by grind [Fi]
theorem NP {c:ByteArray} {y:ByteArray}:∀ {l:List AJ} {o:List ByteArray},y∈o->y∈l.foldl (Fi c) o
 | [],_,h=>h
 | x :: l,o,h=>by rw[RE];exact NP (A3i h)
theorem PI {d:List AJ} {y:ByteArray}:∀ {n i:Nat} {o:List ByteArray},y∈o->y∈Dz d n i o
 | 0,_,_,h=>h
 | n+1,i,o,h=>by
  unfold Dz;split
  .exact PI (NP h)
  exact h
theorem Qd {l:List ByteArray} {s x:ByteArray} (h:x∈Dx l s):x∈l\/x=s:=by grind [Dx]
theorem ZC {l:List ByteArray} {s x:ByteArray} (h:x∈l):x∈Dx l s:=by
 unfold Dx;split
 .exact h
 have a:x∈l.take (YB l s)\/x∈l.drop (YB l s):=Is.1 (by rw[AEe];exact h);grind
theorem gS {l:List ByteArray} {s:ByteArray}:Ae (Dx l s) s=true:=by
 unfold Dx;grind [JF,YB,Ac,Ae,FM]
theorem NQ {l:List ByteArray} {s:ByteArray} (h:s∈l):Ae l s=true:=RT.2 ⟨s,h,FM s⟩
theorem NR {l m:List ByteArray} {s:ByteArray} (hs:∀x∈l,x∈m) (h:Ae l s=true):Ae m s=true:=by
 obtain⟨x,hx,e⟩:=RT.1 h;exact RT.2 ⟨x,hs x hx,e⟩
theorem gT:∀ {l o:List ByteArray} {x:ByteArray},x∈l.foldl Dx o->x∈o\/x∈l
 | [],_,_,h=>.inl h
 | y :: l,o,x,h=>by
  rw[RE]at h;rcases gT h with h|h
  .grind [Qd]
  grind
theorem ZD:∀ {l o:List ByteArray} {x:ByteArray},x∈o->x∈l.foldl Dx o
 | [],_,_,h=>h
 | y :: l,o,x,h=>by rw[RE];exact ZD (ZC h)
theorem WW:∀ {l o:List ByteArray} {x:ByteArray},x∈l->Ae (l.foldl Dx o) x=true
 | [],_,_,h=>by cases h
 | y :: l,o,x,h=>by
  rw[RE];rcases DO.1 h with rfl|h
  .grind [NR,ZD,gS]
  exact WW h
theorem PJ {d:List AJ} {s:ByteArray} (h:0<=BH d s):Ae (D0 d s) s=true:=by
 unfold D0;rw[As (by omega)];exact WW (PI (by simp))
theorem WX {d:List AJ} (hn:Dy d=0) (hl:d.length<=(Bj d).length) {s x:ByteArray} (h:Ae (D0 d s) x=true):YJ d s x:=by
 obtain⟨y,a,e⟩:=RT.1 h;have b:YJ d s y:=by
  unfold D0 at a;split at a
  .cases a
  rcases gT a with a|a
  .cases a
  refine Tj hn hl (λz c=>?_) y a;have:z=s:=by simpa using c
  rw[this];exact .inl (FM s)
 rcases b with b|b
 .exact .inl (DM b e)
 rw[Oy d e]at b;exact .inr b
theorem Gd {d:List AJ} {s:ByteArray} (h:s∈AW d):∃x∈d,x.1=s:=by
 have key:∀(l:List AJ) (o:List ByteArray),s∈l.foldl (λo x=>Dx o x.1) o->s∈o\/∃x∈l,x.1=s:=by
  intro l;induction l with
  | nil=>intro o h;exact .inl h
  | cons x l a =>
   intro o h;rw[RE]at h;rcases a _ h with h|⟨y,b,e⟩
   .grind [Qd]
   grind
 rcases key d [] h with h|h
 .cases h
 exact h
theorem WY {d:List AJ} {x:AJ} (h:x∈d):Ae (AW d) x.1=true:=by
 have b:∀(l:List AJ) (o:List ByteArray),∀y∈o,y∈l.foldl (λo x=>Dx o x.1) o:=by
  intro l;induction l with
  | nil=>intro o y h;exact h
  | cons x l a=>intro o y h;rw[RE];exact a _ y (ZC h)
 have key:∀(l:List AJ) (o:List ByteArray),x∈l->Ae (l.foldl (λo x=>Dx o x.1) o) x.1=true:=by
  intro l;induction l with
  | nil=>intro o h;cases h
  | cons y l a =>
   intro o h;rw[RE];rcases DO.1 h with rfl|h
   .grind [NR,gS]
   exact a _ h
 exact key d [] h
theorem gU {d:List AJ} (hn:Dy d=0) (hl:d.length<=(Bj d).length) (p:d.length<=256) {i j:Nat} (hi:i<(AW d).length) (c:j<(AW d).length)
  (h:F2 (HW d (AW d) ((AW d).getD i ByteArray.empty)) (HW d (AW d) ((AW d).getD j ByteArray.empty))=true):Ac ((AW d).getD i ByteArray.empty) ((AW d).getD j ByteArray.empty)=true:=by
 have m:=FL d d.length;rw[RD]at m;have a:(AW d).length<=4096:=by omega
 generalize hs:(AW d).getD i ByteArray.empty=s at *;generalize b:(AW d).getD j ByteArray.empty=t at *;have n:0<=BH d s:=by
  obtain⟨x,hx,e⟩:=Gd (s:=s) (by rw[<-hs];exact Dg hi);rw[<-e];exact FO hx
 have o:0<=BH d t:=by
  obtain⟨x,hx,e⟩:=Gd (s:=t) (by rw[<-b];exact Dg c);rw[<-e];exact FO hx
 obtain⟨c1,f,-⟩:=Em (d:=d) a s i;obtain⟨c2,g,-⟩:=Em (d:=d) a t i;obtain⟨k,-,-⟩:=Em (d:=d) a s j;obtain⟨l,-,-⟩:=Em (d:=d) a t j;unfold F2 at h;rw[An]at h;have b1:=WX hn hl (c2.1 (MO f g h.1 (c1.2 ⟨hi,by rw[hs];exact PJ n⟩))).2;have b2:=WX hn hl (k.1 (MO g f h.2 (l.2 ⟨c,by rw[b];exact PJ o⟩))).2;rw[hs]at b1;rw[b]at b2;rcases b1 with b1|b1
 .exact FN b1
 rcases b2 with b2|b2
 .exact b2
 omega
section
attribute [local go_sem] bI A2Z MM cs0 cs1
def nmG (d:List AJ) (all:List ByteArray) (codes:List (List Int)) (b:List Int):Nat->Nat->List ByteArray->ByteArray ⊕ List ByteArray
 | 0,_,l=>.inr l
 | n+1,i,l=>if F2 (codes.getD i []) b=true then .inl (all.getD i ByteArray.empty) else nmG d all codes b n (i+1) (if WI b (i:Int)=true then l++[all.getD i ByteArray.empty] else l)
def gV (l:List ByteArray) (s:ByteArray) (i:Nat):ByteArray:=(if 0<(i:Int) then s++ByteArray.mk #[38] else s)++l.getD i ByteArray.empty
def A3j (l:List ByteArray):ByteArray:=(List.range l.length).foldl (gV l) ByteArray.empty
def IR (d:List AJ) (all:List ByteArray) (codes:List (List Int)) (b:List Int):ByteArray :=
 match nmG d all codes b all.length 0 [] with
 | .inl s=>s
 | .inr l=>A3j (CD d l)
theorem OE {d:List AJ} {x:ByteArray}:∀ {l o:List ByteArray},x∈l.foldl (LZ d) o->x∈o\/x∈l
 | [],_,h=>.inl h
 | y :: l,o,h=>by
  rw[RE]at h;rcases OE h with h|h
  .unfold LZ at h;split at h
   .rcases Qd h with h|h
    .exact .inl h
    exact .inr (by simp[h])
   exact .inl h
  exact .inr (by simp[h])
theorem bV {d:List AJ} {l:List ByteArray} {x:ByteArray} (h:x∈CD d l):x∈l:=by
 unfold CD US at h;obtain⟨i,hi,rfl⟩:=GO.1 h;rw[ADR,RY]at hi;rcases OE (Dg (d:=ByteArray.empty) hi.1) with h|h
 .cases h
 exact h
theorem bW (d:List AJ) (l:List ByteArray):(CD d l).length<=l.length:=RG (gH _ _ _) (Jf d l)
theorem nN {l:List ByteArray} (h:∀s∈l,s.size<=32) (k:Nat):(l.getD k ByteArray.empty).size<=32:=by
 rw[AS];cases hh:l[k]? with
 | none=>simp
 | some x=>exact h x (oF hh)
def WZ (l:List ByteArray) (n:Nat):ByteArray:=(List.range n).foldl (gV l) ByteArray.empty
theorem Wa (l:List ByteArray) (n:Nat):WZ l (n+1)=gV l (WZ l n) n:=by
 unfold WZ;rw[S5,AEl];rfl
theorem Wb {l:List ByteArray} (h:∀s∈l,s.size<=32):∀n,(WZ l n).size<=33*n
 | 0=>by simp[WZ]
 | n+1=>by
  have h1:=Wb h n;have a:=nN h n;rw[Wa];unfold gV;split
  .rw[AEu,AEu];have:(ByteArray.mk #[38]).size=1:=rfl;omega
  rw[AEu];omega
def bX:AZ:={ ins:=[E8,GH,UQ,BG],pre:=λ(d,all,codes,b,_)=>WK d/\List.length d<=256/\List.length all<=256/\List.length codes=List.length all/\(∀s∈(all:List ByteArray),s.size<=32)/\(∀x∈(codes:List (List Int)),x.length<=64)/\List.length b<=64,out:=λ(d,all,codes,b,_)=>[.p T9 (IR d all codes b)] }
theorem A0y:Af Tryz.prog 164 bX:=by
 refine fK [0,1,2,3,8,9,10,11,12,16,24,31,45,49] Tryz.func164 Tryz.ntmps164 (AF A0k (AF A30 (AF WN AH))) ?_;rintro w0 O0 ⟨d,all,codes,b,u⟩ e-⟨hs,z,t,q,C,y,w⟩;have t:all.length<=256:=t;have q:codes.length=all.length:=q;simp only[bX,AM];repeat'(first|exact trivial|apply eS rfl|refine rX e ?_ ?_)
 refine AK (ι:={x:Nat×List ByteArray//x.1<=all.length/\x.2.length<=x.1/\(∀s∈x.2,s.size<=32)/\nmG d all codes b (all.length-x.1) x.1 x.2=nmG d all codes b all.length 0 []}) (λx=>⟨[(0,.p E8 d),(1,.p GH all),(2,.p UQ codes),(3,.p BG b),(9,.sr 38 T9 0 x.1.2.length),(10,.p (.int .i64) (x.1.1:Int))],[(38,.arr 9 T9 x.1.2)]⟩) (λx=>all.length-x.1.1) ⟨(0,[]),by simp,by simp,by simp,rfl⟩ (eW [(38,.nil)]) (λx=>?_)
 obtain⟨⟨i,l⟩,hi,B,o,f⟩:=x;simp only at hi B o f;have r:i<all.length->nmG d all codes b (all.length-i) i l=if F2 (codes.getD i []) b=true then .inl (all.getD i ByteArray.empty) else nmG d all codes b (all.length-(i+1)) (i+1) (if WI b (i:Int)=true then l++[all.getD i ByteArray.empty] else l):=by
  intro h;rw[show all.length-i=(all.length-(i+1))+1 by omega];rfl
 simp only;repeat'(first|exact trivial|apply eS rfl|apply AB|refine rX e ?_ ?_|refine rC ?_ ?_<;>intro a<;>try(cases a;done))
 .exact⟨by rw[q];exact a,RG (MN y i) (by decide),RG w (by decide)⟩
 .assumption
 .have c:i<all.length:=by exact eV
  have j:IR d all codes b=all.getD i ByteArray.empty:=by
   unfold IR;rw[<-f,r c,BY a]
  exact fI e [.tmp 8] (by rw[j];exact eR)
 .have c:i<all.length:=by exact eV
  exact⟨IN.2 c,by simp only[AO];omega⟩
 .exact eV
 .have c:i<all.length:=by exact eV
  have hn:=r c;rw[As (by rw[‹F2 _ _=false›];simp),BY a]at hn;refine⟨⟨(i+1,l++[all.getD i ByteArray.empty]),by simp only;omega,by simp only[By,IS];omega,?_,hn.symm.trans f⟩,by simp only;omega,AC [(38,.nm 38)] rfl rfl ?_ ?_⟩
  .intro s hs;rcases Is.1 hs with hs|hs
   .exact o s hs
   have:s=all.getD i ByteArray.empty:=by simpa using hs
   rw[this];exact nN C i
  .exact eN
  exact eN
 .exact eV
 .have c:i<all.length:=by exact eV
  have hn:=r c;rw[As (by rw[‹F2 _ _=false›];simp),As (by rw[a];simp)]at hn;exact⟨⟨(i+1,l),by simp only;omega,by simp only;omega,o,hn.symm.trans f⟩,by simp only;omega,eW [(38,.nm 38)]⟩
 have j:IR d all codes b=A3j (CD d l):=by
  unfold IR;rw[<-f];have:all.length-i=0:=by exact eV
  rw[this];rfl
 refine F0 [38] ?_;repeat'(first|exact trivial|apply eS rfl|refine rX e ?_ ?_)
 .exact⟨hs,z,by omega⟩
 have v:∀s∈CD d l,s.size<=32:=λs h=>o s (bV h);have E:=bW d l;have A:A3j (CD d l)=WZ (CD d l) (CD d l).length:=rfl;rw[A]at j;generalize CD d l=m at *;refine AK (ι:={k:Nat//k<=m.length}) (λk=>⟨[(9,.p GH m),(11,.p T9 (WZ m k.1)),(12,.p (.int .i64) (k.1:Int))],[]⟩) (λk=>m.length-k.1) ⟨0,NO _⟩ (AC [] rfl rfl ?_ ?_) (λk=>?_)
 .exact eN
 .refine eM ?_;rfl
 obtain⟨k,hk⟩:=k;have hk:k<=m.length:=hk;have D:=Wb v k;have n:=Wa m k;have F:=nN v k;unfold gV at n;simp only;repeat'(first|exact trivial|apply eS rfl|apply AB|refine rX e ?_ ?_|refine rC ?_ ?_<;>intro a<;>try(cases a;done))
 .have h1:(ByteArray.mk #[38]).size=1:=rfl;rw[h1];simp only[AO];exact eV
 .refine⟨by assumption,?_⟩;have h1:(ByteArray.mk #[38]).size=1:=rfl;rw[AEu,h1];simp only[AO];exact eV
 .exact eV
 .have g:k<m.length:=by exact eV
  rw[BY a]at n;refine⟨⟨k+1,g⟩,by simp only;omega,AC [] rfl rfl ?_ ?_⟩
  .exact eN
  simp only[n];exact eN
 .refine⟨by assumption,?_⟩;simp only[AO];exact eV
 .exact eV
 .have g:k<m.length:=by exact eV
  rw[As (AE3.2 a)]at n;refine⟨⟨k+1,g⟩,by simp only;omega,AC [] rfl rfl ?_ ?_⟩
  .exact eN
  simp only[n];exact eN
 have g:k=m.length:=by exact eV
 rw[<-g]at j;exact fI e [.tmp 8] (by rw[j];exact eR)
end
section
attribute [local go_sem] Uk QW A3d bT bX bS
def Fb (x:AQ) (out:List AQ):Nat->Nat
 | 0=>0
 | n+1=>if F3 x (out.getD n c0)=true then Fb x out n else n+1
def bZ (out:List AQ) (x:AQ):List AQ:=out.take (Fb x out out.length)++[x]++out.drop (Fb x out out.length)
def Ah (d:List AJ):List (List Int):=(AW d).map λs=>HW d (AW d) s
def Ge (d:List AJ) (all:List ByteArray) (codes:List (List Int)) (out:List AQ) (b:List Int):List AQ:=bZ out (IR d all codes b,b)
def SH (d:List AJ):List AQ->List Int->List AQ:=Ge d (AW d) (Ah d)
theorem PK (d:List AJ) (all:List ByteArray) (codes:List (List Int)):∀(l:List (List Int)) (o:List AQ),(l.foldl (Ge d all codes) o).length=o.length+l.length
 | [],o=>by simp
 | b :: l,o=>by
  rw[RE,PK d all codes l];unfold Ge bZ;simp only[By,OS,S0,No,AAg];omega
theorem Wc {d:List AJ} {all:List ByteArray} {codes:List (List Int)}:∀ {l:List (List Int)} {o:List AQ},(∀c∈l,c.length<=64)->(∀y∈o,y.2.length<=64)->∀y∈l.foldl (Ge d all codes) o,y.2.length<=64
 | [],_,_,e=>e
 | b :: l,o,hl,e=>by
  rw[RE];refine Wc (λc f=>hl c (by simp[f])) (λy a=>?_);unfold Ge bZ at a;simp only[Is,RM]at a;rcases a with (a|a)|a
  .exact e y (S4 a)
  .rw[a];exact hl b (by simp)
  exact e y (AEi a)
theorem gW (x:AQ) (out:List AQ):∀n,Fb x out n<=n
 | 0=>If _
 | n+1=>by
  unfold Fb;split
  .exact Nat.le_succ_of_le (gW x out n)
  exact If _
def A2 (d:List AJ):List AQ:=(A6 (Ah d)).foldl (SH d) []
def CB (d:List AJ):List AQ×Int :=
 if BS d≠0 then ([],BS d) else if 256<(A6 (Ah d)).length then ([],7) else (A2 d,0)
theorem nP {s:ByteArray} {b:Bool} (h:E6 s b=true):s.size<=32:=by
 unfold E6 at h;rw[An]at h;have h1:=h.1;unfold R7 at h1;simp only[RH,oN,On]at h1;have:=h1.1.1.2;omega
theorem gX {d:List AJ} (hn:Dy d=0):∀s∈AW d,s.size<=32:=by
 intro s hs;obtain⟨x,hx,rfl⟩:=Gd hs;obtain⟨j,a,rfl⟩:=Cu d0 hx;exact nP (MP hn j a).2
def LC (d:List AJ) (n:Nat):List (List Int):=((AW d).take n).map λs=>HW d (AW d) s
theorem nQ {d:List AJ} {n:Nat} (h:n<=(AW d).length):(LC d n).length=n:=by simp[LC,h]
theorem gY {d:List AJ} {n:Nat} (h:n<(AW d).length):LC d (n+1)=LC d n++[HW d (AW d) ((AW d).getD n ByteArray.empty)]:=by
 unfold LC;rw[Au _ ByteArray.empty h,Sw];rfl
theorem nS (d:List AJ):LC d (AW d).length=Ah d:=by simp[LC,Ah]
theorem nT (d:List AJ):(Ah d).length=(AW d).length:=by simp[Ah]
theorem PM {d:List AJ} (h:d.length<=256):∀c∈Ah d,c.length<=64:=by
 intro c a;unfold Ah at a;obtain⟨s,-,rfl⟩:=GO.1 a;have b:=FL d d.length;rw[RD]at b;exact(Em (d:=d) (all:=AW d) (by omega) s 0).2.2
theorem gZ {i:Nat}:∀ {n k:Nat} {l:List (List Int)},(∀c∈l,c.length<=64)->∀c∈HN i n k l,c.length<=64
 | 0,_,_,h=>h
 | n+1,k,l,h=>by
  unfold HN;split
  .exact gZ (gL h i k)
  exact h
theorem Qf:∀ {n i:Nat} {l:List (List Int)},(∀c∈l,c.length<=64)->∀c∈Jg n i l,c.length<=64
 | 0,_,_,h=>h
 | n+1,i,l,h=>by
  unfold Jg;split
  .exact Qf (gZ h)
  exact h
theorem g9 {out:List AQ} {x y:AQ}:y∈bZ out x↔y=x\/y∈out:=by
 unfold bZ;rw[Is,Is,RM];have h:=Is (a:=y) (s:=out.take (Fb x out out.length)) (t:=out.drop (Fb x out out.length));rw[AEe]at h;rw[h];constructor
 .rintro ((h|h)|h)
  .exact .inr (.inl h)
  .exact .inl h
  exact .inr (.inr h)
 rintro (h|h|h)
 .exact .inl (.inr h)
 .exact .inl (.inl h)
 exact .inr h
def SI:AZ:={ ins:=[E8],pre:=λ_=>True,out:=λ(d,_)=>[.p KA (CB d).1,.p GI (CB d).2] }
theorem Qg:Af Tryz.prog 118 SI:=by
 refine fK [0,2,3,4,5,6,7,8,9,10,11,12,13,17,24,41,45,73] Tryz.func118 Tryz.ntmps118 (AF A0q (AF Y2 (AF A7h (AF A0v (AF A0y (AF A0t AH)))))) ?_;rintro w0 O0 ⟨d,u⟩ g - -;simp only[SI,AM];repeat'(first|exact trivial|apply eS rfl|refine rX g ?_ ?_|refine rC ?_ ?_<;>intro a<;>try(cases a;done))
 .have h1:CB d=([],BS d):=by unfold CB;rw[BY a]
  exact fI g [.tmp 2,.tmp 3] (by rw[h1];exact eR)
 .have i:BS d=0:=by simpa using a
  obtain⟨-,D,-⟩:=BB i;exact RG D (by decide)
 have i:BS d=0:=by simpa using a
 obtain⟨L,s,-,hn,-⟩:=BB i;have E:=FL d d.length;rw[RD]at E;have M:=gX hn;refine AK (ι:={n:Nat//n<=(AW d).length}) (λn=>⟨[(0,.p E8 d),(5,.p GH (AW d)),(6,.sr 36 BG 0 (LC d n.1).length),(7,.p (.int .i64) (n.1:Int))],[(36,.arr 140 BG (LC d n.1))]⟩) (λn=>(AW d).length-n.1) ⟨0,NO _⟩ (AC [(36,.nil)] rfl rfl ?_ ?_) (λn=>?_)
 .refine eM ?_;rfl
 .refine eM ?_;rfl
 obtain⟨n,H⟩:=n;have P:=nQ H;have hs:=λh=>gY (d:=d) (n:=n) h;simp only;repeat'(first|exact trivial|apply eS rfl|apply AB|refine rX g ?_ ?_|refine rC ?_ ?_<;>intro a<;>try(cases a;done))
 .refine⟨a,⟨s,by dsimp only[Ty.den]at *;omega⟩,?_⟩;simp only[AO];dsimp only[Ty.den]at *;omega
 .exact eV
 .have w:n<(AW d).length:=by exact eV
  have e:=hs w;refine⟨⟨n+1,by omega⟩,by simp only;omega,AC [(36,.nm 36)] rfl rfl ?_ ?_⟩
  .simp only[e];exact eN
  simp only[e];exact eN
 have w:n=(AW d).length:=by exact eV
 subst w;rw[nS];have G:=nT d;have x:=PM s;have t:∀c∈A6 (Ah d),c.length<=64:=Qf x;refine F0 [36] ?_;repeat'(first|exact trivial|apply eS rfl|refine rX g ?_ ?_|refine rC ?_ ?_<;>intro a<;>try(cases a;done))
 .exact⟨by omega,x⟩
 .have h1:CB d=([],7):=by
   unfold CB;rw[As (by rw[i];simp),BY (by omega)]
  exact fI g [.tmp 2,.tmp 3] (by rw[h1];exact eR)
 have C:CB d=((A6 (Ah d)).foldl (Ge d (AW d) (Ah d)) [],0):=by
  unfold CB;rw[As (by rw[i];simp),As (by omega)];rfl
 generalize A6 (Ah d)=f at *;generalize Ah d=codes at *;generalize AW d=all at *;refine AK (ι:={k:Nat//k<=f.length}) (λk=>⟨[(0,.p E8 d),(5,.p GH all),(6,.p UQ codes),(8,.p UQ f),(9,.sr 9 bG 0 ((f.take k.1).foldl (Ge d all codes) []).length),(10,.p (.int .i64) (k.1:Int))],[(9,.arr 152 bG ((f.take k.1).foldl (Ge d all codes) []))]⟩) (λk=>f.length-k.1) ⟨0,NO _⟩ (AC [(9,.nil)] rfl rfl ?_ ?_) (λk=>?_)
 .refine eM ?_;rfl
 .refine eM ?_;rfl
 obtain⟨k,hk⟩:=k;have B:=PK d all codes (f.take k) [];have N:(f.take k).length=k:=by rw[OS];exact AEd hk
 have I:=Wc (d:=d) (all:=all) (codes:=codes) (l:=f.take k) (o:=[]) (λc g=>t c (S4 g)) (by simp);have K:=λh:k<f.length=>Ew (Ge d all codes) f [] [] h;rw[N]at B;simp only[AAg,AE4]at B;generalize A:(f.take k).foldl (Ge d all codes) []=out at *;simp only;repeat'(first|exact trivial|apply eS rfl|refine rX g ?_ ?_|refine rC ?_ ?_<;>intro a<;>try(cases a;done))
 .exact⟨a,⟨L,s,by omega,G,M,x,MN t k⟩,a⟩
 .have v:k<f.length:=by exact eV
  have e:=K v;have F:=MN t k;generalize f.getD k []=b at *;unfold Ge at e;generalize IR d all codes b=nm at *;refine AK (ι:={q:Nat//q<=out.length/\Fb (nm,b) out q=Fb (nm,b) out out.length}) (λq=>⟨[(0,.p E8 d),(5,.p GH all),(6,.p UQ codes),(8,.p UQ f),(9,.sr 9 bG 0 out.length),(10,.p (.int .i64) (k:Int)),(11,.bp 11 [] 0),(12,.p (.int .i64) (q.1:Int))],[(9,.arr 152 bG out),(11,.box 152 true [.p T9 nm,.p BG b])]⟩) (λq=>q.1) ⟨out.length,If _,rfl⟩ (eW [(9,.nm 9),(11,.nm 11)]) (λq=>?_)
  obtain⟨q,j,z⟩:=q;have j:q<=out.length:=j;simp only;repeat'(first|exact trivial|apply eS rfl|apply AB|refine rX g ?_ ?_|refine rC ?_ ?_<;>intro a<;>try(cases a;done))
  .refine⟨λh=>by omega,λh=>by exact eV,λh=>⟨RG F (by decide),RG (I _ (AE out c0 (k:=((q:Int)-1).toNat) (by omega))) (by decide)⟩⟩
  .omega
  .obtain⟨O,y⟩:=a;obtain⟨q,rfl⟩:∃r,q=r+1:=⟨q-1,by omega⟩;have m:((q+1:Nat):Int)-1=(q:Int):=by omega
   refine⟨⟨q,by omega,?_⟩,Nat.lt_succ_self q,AC [(9,.nm 9),(11,.nm 11)] rfl rfl ?_ ?_⟩
   .rw[<-z];rw[m,RK]at y;show _=if F3 (nm,b) (out.getD q c0)=true then Fb (nm,b) out q else q+1
    rw[BY y]
   .exact eN
   refine eM ?_;show (q:Int)+1-1=q;omega
  .refine⟨RJ.2 j,?_⟩;rw[OS];simp only[AO];omega
  .rw[OS];simp only[AO];omega
  .refine⟨RJ.2 j,?_⟩;rw[OS,S0];simp only[AO];omega
  .omega
  have J:Fb (nm,b) out q=q:=by
   cases q with
   | zero=>rfl
   | succ q =>
    have m:((q+1:Nat):Int)-1=(q:Int):=by omega
    have:=a (by omega);rw[m,RK]at this;show (if F3 (nm,b) (out.getD q c0)=true then Fb (nm,b) out q else q+1)=q+1;rw[As (by rw[this];simp)]
  unfold bZ at e;rw[<-z,J]at e;refine⟨⟨k+1,by omega⟩,by simp only;omega,AC [(9,.nm 80)] rfl rfl ?_ ?_⟩
  .refine eM ?_;exact e.symm
  refine eM ?_;have e2:=AAc List.length e;rw[By,By]at e2;exact e2.symm
 have v:k=f.length:=by exact eV
 rw[v,RD]at A;rw[A]at C;refine F0 [9] ?_;exact fI g [.tmp 2,.tmp 3] (by rw[C];exact eR)
end
theorem ZE {d:List AJ}:∀ {l:List (List Int)} {o:List AQ} {y:AQ},y∈l.foldl (SH d) o↔y∈o\/∃b∈l,y=(IR d (AW d) (Ah d) b,b)
 | [],o,y=>by simp
 | b :: l,o,y=>by
  rw[RE,ZE];unfold SH Ge;rw[g9];simp only[DO];constructor
  .rintro ((h|h)|⟨c,a,e⟩)
   .exact .inr ⟨b,.inl rfl,h⟩
   .exact .inl h
   exact .inr ⟨c,.inr a,e⟩
  rintro (h|⟨c,rfl|a,e⟩)
  .exact .inl (.inr h)
  .exact .inl (.inl e)
  exact .inr ⟨c,a,e⟩
theorem D5 {d:List AJ} {y:AQ}:y∈A2 d↔∃b∈A6 (Ah d),y=(IR d (AW d) (Ah d) b,b):=by
 unfold A2;rw[ZE];simp
theorem IT (d:List AJ):(A2 d).length=(A6 (Ah d)).length:=by
 have h:=PK d (AW d) (Ah d) (A6 (Ah d)) [];rw[AAg,AE4]at h;exact h
theorem A3k {l:List (List Int)} {i k:Nat} {c:List Int} (h:c∈l):c∈HL l i k:=by
 unfold HL;split
 .exact Is.2 (.inl h)
 exact h
theorem hC {i:Nat} {c:List Int}:∀ {n k:Nat} {l:List (List Int)},c∈l->c∈HN i n k l
 | 0,_,_,h=>h
 | n+1,k,l,h=>by
  unfold HN;split
  .exact hC (A3k h)
  exact h
theorem hZ {c:List Int}:∀ {n i:Nat} {l:List (List Int)},c∈l->c∈Jg n i l
 | 0,_,_,h=>h
 | n+1,i,l,h=>by
  unfold Jg;split
  .exact hZ (hC h)
  exact h
theorem Tk (d:List AJ) {i:Nat} (h:i<(AW d).length):(Ah d).getD i []=HW d (AW d) ((AW d).getD i ByteArray.empty):=by
 unfold Ah;simp[AS,h]
theorem xW {d:List AJ} (hn:Dy d=0) (hl:d.length<=(Bj d).length) (c:d.length<=256) {j:Nat} (b:j<(AW d).length):∀(m i:Nat) (l:List ByteArray),i+m=(AW d).length->i<=j ->
  ∃s,nmG d (AW d) (Ah d) ((Ah d).getD j []) m i l=.inl s/\Ac s ((AW d).getD j ByteArray.empty)=true
 | 0,i,l,h,f=>by omega
 | m+1,i,l,h,f=>by
  unfold nmG;split
  .rename_i a;refine⟨_,rfl,?_⟩;rw[Tk d (by omega),Tk d b]at a;exact gU hn hl c (by omega) b a
  rename_i a;have g:i≠j:=by
   intro e;subst e;exact a (gP _)
  exact xW hn hl c b m (i+1) _ (by omega) (by omega)
theorem xX (s:ByteArray):∀(l:List AQ) (k:Nat),SE s k l<((k+l.length:Nat):Int)
 | [],k=>by simp only[SE];omega
 | x :: l,k=>by
  simp only[SE];split
  .simp only[No];omega
  have:=xX s l (k+1);simp only[No];omega
theorem xY (s:ByteArray):∀(l:List AQ) (k:Nat) (x:AQ),x∈l->Ac x.1 s=true->0<=SE s k l
 | [],_,_,h,_=>by cases h
 | y :: l,k,x,h,e=>by
  simp only[SE];split
  .omega
  rename_i a;rcases DO.1 h with rfl|h
  .exact absurd e a
  exact xY s l (k+1) x h e
theorem nU (l:List AQ) (s:ByteArray):Da l s<(l.length:Int):=by
 have:=xX s l 0;rw[AE4]at this;exact this
theorem Tl {d:List AJ} (h:BS d=0) {s:ByteArray} (hs:Ae (AW d) s=true):0<=Da (A2 d) s:=by
 obtain⟨-,b,-,hn,hl⟩:=BB h;obtain⟨t,f,e⟩:=RT.1 hs;obtain⟨j,c,rfl⟩:=Cu ByteArray.empty f;obtain⟨u,hu,a⟩:=xW hn hl b c (AW d).length 0 [] (by omega) (by omega);have g:(Ah d).length=(AW d).length:=by simp[Ah]
 refine xY s (A2 d) 0 (u,(Ah d).getD j []) ?_ (DM a e);rw[D5];refine⟨(Ah d).getD j [],hZ (Dg (by omega)),?_⟩;unfold IR;rw[hu]
theorem Tm {d:List AJ} (h:BS d=0) {x:AJ} (hx:x∈d):0<=Da (A2 d) x.1:=Tl h (WY hx)
theorem Bq {d:List AJ} (h:(CB d).2=0):BS d=0/\(A6 (Ah d)).length<=256/\(CB d).1=A2 d:=by
 unfold CB at h ⊢;split at h
 .rename_i h1;exact absurd h h1
 rename_i h1;split at h
 .cases h
 rename_i a;exact⟨FT h1,by omega,by rw[As h1,As a]⟩
theorem A7n {d:List AJ} (h:BS d=0):0<(A2 d).length:=by
 obtain⟨-,-,a,-,-⟩:=BB h;cases d with
 | nil=>cases a
 | cons x d =>
  have:=Tm h (x:=x) (by simp);have b:=nU (A2 (x :: d)) x.1;omega
section
attribute [local go_sem] xT
def A9E (l:List AQ) (i k:Int) (m:Nat):Bool:=(m:Int)==i||(m:Int)==k||!OC l k (m:Int)||!OC l (m:Int) i
def A0z (l:List AQ) (i k:Int) (n:Nat):Bool:=(List.range n).all (A9E l i k)
def A0A (l:List AQ) (i:Int) (k:Nat):Bool:=!((k:Int)==i||!OC l (k:Int) i)&&A0z l i (k:Int) l.length
def OG (l:List AQ) (i:Int) (n:Nat):List Int:=((List.range n).filter λ(k:Nat)=>A0A l i k).map λ(k:Nat)=>(k:Int)
def iC (l:List AQ) (i:Int):List Int:=OG l i l.length
theorem nV (l:List AQ) (i:Int) (n:Nat):OG l i (n+1)=OG l i n++if A0A l i n=true then [(n:Int)] else []:=by
 unfold OG;rw[S5,AEJ,Sw]
 congr 1
 rw[AAf,AEW];split<;>rfl
theorem A0B (l:List AQ) (i:Int) (n:Nat):(OG l i n).length<=n:=by
 unfold OG;rw[OR];exact RG (AAw _ _) (by simp)
theorem A0C (l:List AQ) (i k:Int) (n:Nat):A0z l i k (n+1)=(A0z l i k n&&A9E l i k n):=by
 unfold A0z;rw[S5,AEB];simp
def A3l:AZ:={ ins:=[KA,T3],pre:=λ(l,i,_)=>((0:Int)<=i/\i<(List.length l:Int))/\List.length l<=256/\(∀x∈(l:List AQ),x.2.length<=64),out:=λ(l,i,_)=>[.p F1 (iC l i)] }
theorem A7o:Af Tryz.prog 119 A3l:=by
 refine fK [0,1,4,5,6,7,8,12,24,28,56] Tryz.func119 Tryz.ntmps119 (AF xV AH) ?_;rintro w0 O0 ⟨l,i,u⟩ c-⟨hi,hl,hx⟩;have hl:l.length<=256:=hl;have f:∀x∈(l:List AQ),x.2.length<=100000:=λx h=>RG (hx x h) (by decide);simp only[A3l,AM];repeat'(first|exact trivial|apply eS rfl|refine rX c ?_ ?_)
 refine AK (ι:={k:Nat//k<=l.length}) (λk=>⟨[(0,.p KA l),(1,.p T3 i),(5,.sr 60 T3 0 (OG l i k.1).length),(6,.p (.int .i64) (k.1:Int))],[(60,.arr 3 T3 (OG l i k.1))]⟩) (λk=>l.length-k.1) ⟨0,NO _⟩ (AC [(60,.nil)] rfl rfl ?_ ?_) (λk=>?_)
 .refine eM ?_;rfl
 .refine eM ?_;rfl
 obtain⟨k,hk⟩:=k;have hk:k<=l.length:=hk;have n:=A0B l i k;have hs:=nV l i k;simp only;repeat'(first|exact trivial|apply eS rfl|apply AB|refine rX c ?_ ?_|refine rC ?_ ?_<;>intro a<;>try(cases a;done))
 .intro h;exact⟨by assumption,hi,f⟩
 .exact eV
 .have e:k<l.length:=by exact eV
  have b:A0A l i k=false:=by
   unfold A0A;rw[AAH];left;rw[ADE,Sx,S1,RH];exact a
  rw[b,As (by simp),Ra]at hs;refine⟨⟨k+1,by omega⟩,by simp only;omega,AC [(60,.nm 60)] rfl rfl ?_ ?_⟩
  .simp only[hs];exact eN
  simp only[hs];exact eN
 .have e:k<l.length:=by exact eV
  have b:A0A l i k=A0z l i (k:Int) l.length:=by
   unfold A0A;rw[show ((k:Int)==i||!OC l (k:Int) i)=false by
    rw[oN,ADF,ADE];exact a]
   rfl
  refine AK (ι:={m:Nat//m<=l.length}) (λm=>⟨[(0,.p KA l),(1,.p T3 i),(5,.sr 60 T3 0 (OG l i k).length),(6,.p (.int .i64) (k:Int)),(7,.p .bool (A0z l i (k:Int) m.1)),(8,.p (.int .i64) (m.1:Int))],[(60,.arr 3 T3 (OG l i k))]⟩) (λm=>l.length-m.1) ⟨0,NO _⟩ (AC [(60,.nm 60)] rfl rfl ?_ ?_) (λm=>?_)
  .exact eN
  .refine eM ?_;rfl
  obtain⟨m,g⟩:=m;have g:m<=l.length:=g;have j:=A0C l i (k:Int) m;simp only;repeat'(first|exact trivial|apply eS rfl|apply AB|refine rX c ?_ ?_|refine rC ?_ ?_<;>intro a<;>try(cases a;done))
  .exact⟨λh=>⟨by assumption,a,f⟩,λh=>⟨a,hi,f⟩⟩
  .exact eV
  .have d:m<l.length:=by exact eV
   refine⟨⟨m+1,by omega⟩,by simp only;omega,AC [(60,.nm 60)] rfl rfl ?_ ?_⟩
   .exact eN
   simp only[j];unfold A9E;exact eN
  .simp only[AO];dsimp only[Ty.den]at *;omega
  .exact eV
  .have d:m=l.length:=by exact eV
   subst d;rw[b,BY a]at hs;refine⟨⟨k+1,by omega⟩,by simp only;omega,AC [(60,.nm 60)] rfl rfl ?_ ?_⟩
   .simp only[hs];exact eN
   simp only[hs];exact eN
  .exact eV
  have d:m=l.length:=by exact eV
  subst d;rw[b,As (by rw[a];simp),Ra]at hs;refine⟨⟨k+1,by omega⟩,by simp only;omega,AC [(60,.nm 60)] rfl rfl ?_ ?_⟩
  .simp only[hs];exact eN
  simp only[hs];exact eN
 have e:k=l.length:=by exact eV
 subst e;refine F0 [60] ?_;exact fI c [.tmp 4] (by unfold iC;exact eR)
end
section
attribute [local go_sem] QW WG Jd
abbrev FV:=ByteArray×ByteArray
abbrev f0V:FV:=(ByteArray.empty,ByteArray.empty)
def dcG (all:List ByteArray) (l:List FV):Nat->List FV->Int
 | _,[]=>0
 | k,x :: r=>if E6 x.1 true=false then 1 else if ((l.take k).any λy=>Ac y.1 x.1)=true then 4 else if Ae all x.2=false then 5 else dcG all l (k+1) r
def b4 (all:List ByteArray):List AJ->Int
 | []=>0
 | x :: l=>if dcG all x.2.2 0 x.2.2≠0 then dcG all x.2.2 0 x.2.2 else b4 all l
def MQ (d:List AJ):Int:=b4 (AW d) d
theorem A3m (all:List ByteArray) (l:List FV) {k:Nat} (h:k<l.length):dcG all l k (l.drop k)=if E6 (l.getD k f0V).1 true=false then 1 else if ((l.take k).any λy=>Ac y.1 (l.getD k f0V).1)=true then 4 else if Ae all (l.getD k f0V).2=false then 5 else dcG all l (k+1) (l.drop (k+1)):=by
 rw[Of h];have e:l.getD k f0V=l[k]:=by simp[AS,h]
 rw[e];rfl
theorem A0D (all:List ByteArray) (l:List AJ) {k:Nat} (h:k<l.length):b4 all (l.drop k)=if dcG all (l.getD k d0).2.2 0 (l.getD k d0).2.2≠0 then dcG all (l.getD k d0).2.2 0 (l.getD k d0).2.2 else b4 all (l.drop (k+1)):=by
 rw[Of h];have e:l.getD k d0=l[k]:=by simp[AS,h]
 rw[e];rfl
def nW:AZ:={ ins:=[E8],pre:=λ(d,_)=>List.length d<=256,out:=λ(d,_)=>[.p GI (MQ d)] }
theorem A3n:Af Tryz.prog 193 nW:=by
 refine fK [0,2,3,4,5,6,7,13,24,33,36,49,57] Tryz.func193 Tryz.ntmps193 (AF Y2 (AF m9 (AF G7 AH))) ?_;rintro w0 O0 ⟨d,u⟩ c ⟨⟨x,v⟩,-⟩ j;have j:d.length<=256:=j;simp only[nW,AM];repeat'(first|exact trivial|apply eS rfl|refine rX c ?_ ?_)
 .exact RG j (by decide)
 have w:MQ d=b4 (AW d) d:=rfl;rw[w];generalize AW d=all at *;refine AK (ι:={i:Nat//i<=d.length/\b4 all (d.drop i)=b4 all d}) (λi=>⟨[(0,.p E8 d),(3,.p GH all),(4,.p (.int .i64) (i.1:Int))],[]⟩) (λi=>d.length-i.1) ⟨0,NO _,rfl⟩ (eW []) (λi=>?_)
 obtain⟨i,hi,hf⟩:=i;simp only;repeat'(first|exact trivial|apply eS rfl|refine rX c ?_ ?_|refine rC ?_ ?_<;>intro a<;>try(cases a;done))
 .exact a
 .have o:i<d.length:=by exact eV
  rw[A0D all d o]at hf;have A:(d.getD i d0).2.2.length<=AO:=(v _ (AE d d0 o)).2.2.1;have z:(List.getD d i (ByteArray.empty,[],[])).2.2=(d.getD i d0).2.2:=rfl;rw[z];generalize (d.getD i d0).2.2=l at *;simp only[AO]at A;refine AK (ι:={k:Nat//k<=l.length/\dcG all l k (l.drop k)=dcG all l 0 l}) (λk=>⟨[(0,.p E8 d),(3,.p GH all),(4,.p (.int .i64) (i:Int)),(5,.p fZ l),(6,.p (.int .i64) (k.1:Int))],[]⟩) (λk=>l.length-k.1) ⟨0,NO _,rfl⟩ (eW []) (λk=>?_)
  obtain⟨k,hk,b⟩:=k;have r:=λh:k<l.length=>A3m all l h;simp only;repeat'(first|exact trivial|apply eS rfl|apply AB|refine rX c ?_ ?_|refine rC ?_ ?_<;>intro a<;>try(cases a;done))
  .exact a
  .have e:k<l.length:=by exact eV
   rw[r e,BY a]at b;rw[<-b,BY (by decide)]at hf;exact fI c [.tmp 2] (by rw[<-hf];exact eR)
  .have e:k<l.length:=by exact eV
   have q:(k:Int)<(l.length:Int):=IN.2 e;rw[r e,As (by rw[a];simp)]at b;refine AK (ι:={m:Nat//m<=k/\((l.take m).any λy=>Ac y.1 (l.getD k f0V).1)=false}) (λm=>⟨[(0,.p E8 d),(3,.p GH all),(4,.p (.int .i64) (i:Int)),(5,.p fZ l),(6,.p (.int .i64) (k:Int)),(7,.p (.int .i64) (m.1:Int))],[]⟩) (λm=>k-m.1) ⟨0,NO _,rfl⟩ (eW []) (λm=>?_)
   obtain⟨m,B,g⟩:=m;have s:=λh:m<l.length=>NK l f0V (λy=>Ac y.1 (l.getD k f0V).1) h;simp only;repeat'(first|exact trivial|apply eS rfl|apply AB|refine rX c ?_ ?_|refine rC ?_ ?_<;>intro a<;>try(cases a;done))
   .have h1:(m:Int)<(k:Int):=a;exact⟨by exact eV,q⟩
   .have f:m<k:=IN.1 (by assumption);have n:=s (by omega);have t:((l.take k).any λy=>Ac y.1 (l.getD k f0V).1)=true:=by
     rw[RT];exact⟨l.getD m f0V,by
      rw[AEv];refine⟨m,by omega,?_⟩;simp[AS,show m<l.length by omega],a⟩
    rw[BY t]at b;rw[<-b,BY (by decide)]at hf;exact fI c [.tmp 2] (by rw[<-hf];exact eR)
   .omega
   .have f:m<k:=IN.1 (by assumption);have n:=s (by omega);refine⟨⟨m+1,by omega,?_⟩,by simp only;omega,AC [] rfl rfl ?_ ?_⟩
    .rw[n,g];exact a
    .exact eN
    exact eN
   .exact q
   .have f:m=k:=by omega
    subst f;rw[As (by rw[g];simp),BY a]at b;rw[<-b,BY (by decide)]at hf;exact fI c [.tmp 2] (by rw[<-hf];exact eR)
   .have:=x;simp only[AO]at this;omega
   have f:m=k:=by omega
   subst f;rw[As (by rw[g];simp),As (by rw[a];simp)]at b;exact⟨⟨m+1,by omega,b⟩,by simp only;omega,eW []⟩
  .omega
  have e:l.drop k=[]:=RC (RJ.1 a);rw[e]at b;rw[<-b,As (by simp[dcG])]at hf;exact⟨⟨i+1,by omega,hf⟩,by simp only;omega,eW []⟩
 have e:d.drop i=[]:=RC (by exact eV);rw[e]at hf;exact fI c [.tmp 2] (by rw[<-hf];first|exact eR|refine Yw ?_;rfl)
end
section
attribute [local go_sem] bR bH MM cs0
def Tn (s:ByteArray) (o:List ByteArray) (x:AJ):List ByteArray:=if (Gc x s).2=true then Dx o x.1 else o
def Jh (d:List AJ) (s:ByteArray):List ByteArray:=d.foldl (Tn s) []
theorem nX (s:ByteArray) (d:List AJ) (k:Nat):(Jh (d.take k) s).length<=k:=by
 have key:∀(l:List AJ) (o:List ByteArray),(l.foldl (Tn s) o).length<=o.length+l.length:=by
  intro l;induction l with
  | nil=>intro o;simp
  | cons x l b =>
   intro o;have h1:=b (Tn s o x);have a:(Tn s o x).length<=o.length+1:=by
    unfold Tn;split
    .exact MH o x.1
    omega
   simp only[RE,No];omega
 have h1:=key (d.take k) [];have a:=tO k d;unfold Jh;simp only[AAg]at h1;omega
def Gf (d:List AJ) (s:ByteArray):ByteArray×Bool:=if (CD d (Jh d s)).length=1 then ((CD d (Jh d s)).getD 0 ByteArray.empty,true) else (ByteArray.empty,false)
def b5:AZ:={ ins:=[E8,T9],pre:=λ(d,_,_)=>WK d/\List.length d<=256,out:=λ(d,s,_)=>[.p T9 (Gf d s).1,.p .bool (Gf d s).2] }
theorem iD:Af Tryz.prog 167 b5:=by
 refine fK [0,1,4,5,6,7,9,10,14,26,39] Tryz.func167 Tryz.ntmps167 (AF gJ (AF R8 (AF WN AH))) ?_;rintro w0 O0 ⟨d,s,u⟩ c-⟨l,f⟩;have f:d.length<=256:=f;simp only[b5,AM];repeat'(first|exact trivial|apply eS rfl|refine rX c ?_ ?_)
 refine AK (ι:={i:Nat//i<=d.length}) (λi=>⟨[(0,.p E8 d),(1,.p T9 s),(6,.p GH (Jh (d.take i.1) s)),(7,.p (.int .i64) (i.1:Int))],[]⟩) (λi=>d.length-i.1) ⟨0,NO _⟩ (AC [] rfl rfl ?_ ?_) (λi=>?_)
 .exact eN
 .refine eM ?_;rfl
 obtain⟨i,hi⟩:=i;have hi:i<=d.length:=hi;have hn:=nX s d i;have hs:=λh:i<d.length=>Ew (Tn s) d d0 [] h;have j:∀e,Jh e s=e.foldl (Tn s) []:=λ_=>rfl;rw[<-j,<-j]at hs;unfold Tn at hs;simp only;repeat'(first|exact trivial|apply eS rfl|apply AB|refine rX c ?_ ?_|refine rC ?_ ?_<;>intro a<;>try(cases a;done))
 .exact a
 .exact⟨by assumption,by omega⟩
 .exact eV
 .have b:i<d.length:=by exact eV
  have e:=hs b;rw[BY a]at e;refine⟨⟨i+1,by omega⟩,by simp only;omega,AC [] rfl rfl ?_ ?_⟩
  .exact eN
  simp only[e];exact eN
 .exact eV
 .have b:i<d.length:=by exact eV
  have e:=hs b;rw[As (by rw[a];simp)]at e;refine⟨⟨i+1,by omega⟩,by simp only;omega,AC [] rfl rfl ?_ ?_⟩
  .exact eN
  simp only[e];exact eN
 .exact⟨l,f,by omega⟩
 .have b:d.take i=d:=At (by exact eV);rw[b]at a ⊢;have h1:Gf d s=(ByteArray.empty,false):=by
   unfold Gf;rw[As (by omega)]
  exact fI c [.tmp 4,.tmp 5] (by rw[h1];first|exact eR|refine Yw ?_;first|rfl|exact⟨rfl,rfl⟩)
 .have g:((CD d (Jh (d.take i) s)).length:Int)=1:=by simpa using a
  have k:(0:Int)<((CD d (Jh (d.take i) s)).length:Int):=by rw[g];decide
  exact k
 have b:d.take i=d:=At (by exact eV);rw[b]at a ⊢;have g:((CD d (Jh d s)).length:Int)=1:=by simpa using a
 have h1:Gf d s=((CD d (Jh d s)).getD 0 ByteArray.empty,true):=by
  unfold Gf;rw[BY (by omega)]
 exact fI c [.tmp 4,.tmp 5] (by rw[h1];exact eR)
end
section
attribute [local go_sem] bR Ul xT A31
def YK (l:List AQ) (t:Int) (s:ByteArray) (o:List Int×Bool) (x:AJ):List Int×Bool :=
 if (!(Gc x s).2||!OC l (Da l x.1) t)=true then o else (GJ o.1 (l.getD (Da l (Gc x s).1).toNat c0).2,true)
def Wd (d:List AJ) (l:List AQ) (t:Int) (s:ByteArray):List Int×Bool:=d.foldl (YK l t s) ((l.getD 0 c0).2,false)
def A7q (d:List AJ) (l:List AQ):Prop:=(∀x∈d,0<=Da l x.1)/\∀x∈d,∀y∈x.2.2,0<=Da l y.2
theorem iE (s:ByteArray):∀(l:List (ByteArray×ByteArray)),(gI s l).2=true->∃y∈l,y.2=(gI s l).1
 | [],h=>by cases h
 | x :: l,h=>by
  simp only[gI]at h ⊢;split at h
  .rename_i h1;rw[BY h1];exact⟨x,by simp,rfl⟩
  rename_i h1;rw[As h1];obtain⟨y,a,e⟩:=iE s l h;exact⟨y,by simp[a],e⟩
theorem A7q.value {d:List AJ} {l:List AQ} (h:A7q d l) {x:AJ} (hx:x∈d) {s:ByteArray} (a:(Gc x s).2=true):0<=Da l (Gc x s).1:=by
 obtain⟨y,b,e⟩:=iE s x.2.2 a;have:=h.2 x hx y b;rw[e]at this;exact this
theorem A3o {l:List AQ} (t:Int) (s:ByteArray) (x:AJ) {o:List Int×Bool} (h:o.1.length<=64):(YK l t s o x).1.length<=64:=by
 unfold YK;split
 .exact h
 exact RG (gK _ _) h
theorem We {l:List AQ} (t:Int) (s:ByteArray):∀(d:List AJ) {o:List Int×Bool},o.1.length<=64->(d.foldl (YK l t s) o).1.length<=64
 | [],_,h=>h
 | x :: d,_,h=>by rw[RE];exact We t s d (A3o t s x h)
theorem iG (s:ByteArray):∀(l:List AQ) (k:Nat),SE s k l<((k+l.length:Nat):Int)
 | [],k=>by simp only[SE];omega
 | x :: l,k=>by
  simp only[SE];split
  .simp only[No];omega
  have:=iG s l (k+1);simp only[No];omega
theorem Tp (l:List AQ) (s:ByteArray):Da l s<(l.length:Int):=by
 have:=iG s l 0;rw[AE4]at this;exact this
def A7r:AZ:={ ins:=[E8,KA,T3,T9],pre:=λ(d,l,t,_,_)=>A7q d l/\((0:Int)<=t/\t<(List.length l:Int))/\List.length l<=256/\(∀x∈(l:List AQ),x.2.length<=64),out:=λ(d,l,t,s,_)=>[.p BG (Wd d l t s).1,.p .bool (Wd d l t s).2] }
theorem A3p:Af Tryz.prog 158 A7r:=by
 refine fK [0,1,2,3,8,9,10,11,12,13,14,22,48] Tryz.func158 Tryz.ntmps158 (AF gJ (AF Y7 (AF xV (AF nB AH)))) ?_;rintro w0 O0 ⟨d,l,t,s,u⟩ f ⟨⟨y,E⟩,-⟩ ⟨q,j,hl,hx⟩;have hl:l.length<=256:=hl;have D:∀x∈(l:List AQ),x.2.length<=100000:=λx h=>RG (hx x h) (by decide);have n:0<List.length l:=IN.1 (AFm j.1 j.2);simp only[AO]at y;simp only[A7r,AM];repeat'(first|exact trivial|apply eS rfl|refine rX f ?_ ?_)
 .exact IN.2 n
 have m:Wd d l t s=d.foldl (YK l t s) ((l.getD 0 c0).2,false):=rfl;have v:(l.getD 0 c0).2.length<=64:=hx _ (AE l c0 n);have w:(List.getD l 0 (ByteArray.empty,[])).2=(l.getD 0 c0).2:=rfl;rw[w];generalize (l.getD 0 c0).2=c at *;refine AK (ι:={i:Nat//i<=d.length}) (λi=>⟨[(0,.p E8 d),(1,.p KA l),(2,.p T3 t),(3,.p T9 s),(10,.p .bool ((d.take i.1).foldl (YK l t s) (c,false)).2),(11,.p BG ((d.take i.1).foldl (YK l t s) (c,false)).1),(12,.p (.int .i64) (i.1:Int))],[]⟩) (λi=>d.length-i.1) ⟨0,NO _⟩ (AC [] rfl rfl ?_ ?_) (λi=>?_)
 .exact eN
 .refine eM ?_;exact⟨rfl,rfl⟩
 obtain⟨i,hi⟩:=i;have hi:i<=d.length:=hi;have z:=We (l:=l) t s (d.take i) (o:=(c,false)) v;have hs:=λh:i<d.length=>Ew (YK l t s) d d0 (c,false) h;have C:=λh:i<d.length=>q.1 _ (AE d d0 h);have B:=λ(h:i<d.length) (g:(Gc (d.getD i d0) s).2=true)=>q.value (AE d d0 h) g;have k:∀o x,YK l t s o x=(if (!(Gc x s).2||!OC l (Da l x.1) t)=true then o else (GJ o.1 (l.getD (Da l (Gc x s).1).toNat c0).2,true)):=λ_ _=>rfl;generalize r:(d.take i).foldl (YK l t s) (c,false)=o at *;simp only;repeat'(first|exact trivial|apply eS rfl|apply AB|refine rX f ?_ ?_|refine rC ?_ ?_<;>intro a<;>try(cases a;done))
 .exact a
 .have b:i<d.length:=IN.1 a;exact⟨λ_=>a,λ_=>⟨⟨C b,Tp _ _⟩,j,D⟩⟩
 .exact eV
 .have b:i<d.length:=IN.1 (by assumption);have e:=hs b;rw[k,BY (by rw[Sx,RH,RH];exact a)]at e;refine⟨⟨i+1,by omega⟩,by simp only;omega,AC [] rfl rfl ?_ ?_⟩
  .exact eN
  refine eM ?_;rw[e];exact⟨rfl,rfl⟩
 .have b:i<d.length:=IN.1 (by assumption);exact⟨⟨B b a.1,Tp _ _⟩,RG z (by decide)⟩
 .exact eV
 .have b:i<d.length:=IN.1 (by assumption);have e:=hs b;have A:¬(!(Gc (d.getD i d0) s).2||!OC l (Da l (d.getD i d0).1) t)=true:=by
   rw[Sx,RH,RH];rintro (h|h)
   .rw[show (Gc (d.getD i d0) s).2=true from a.1]at h;cases h
   rw[show OC l (Da l (d.getD i d0).1) t=true from a.2]at h;cases h
  rw[k,As A]at e;refine⟨⟨i+1,by omega⟩,by simp only;omega,AC [] rfl rfl ?_ ?_⟩
  .exact eN
  refine eM ?_;rw[e];exact⟨rfl,rfl⟩
 have b:d.take i=d:=At (RJ.1 a);rw[b]at r;rw[r]at m;exact fI f [.tmp 8,.tmp 9] (by rw[m];exact eR)
end
theorem Tq:∀ {l:List AJ},MF l=0->∀x∈l,x.2.1.length<=256/\x.2.2.length<=256
 | [],_,x,hx=>by cases hx
 | y :: l,h,x,hx=>by
  simp only[MF]at h;split at h
  .cases h
  rename_i h1;rcases DO.1 hx with rfl|hx
  .exact⟨by omega,by omega⟩
  exact Tq h x hx
theorem LD {d:List AJ} (h:BS d=0):∀x∈d,x.2.1.length<=256/\x.2.2.length<=256:=by
 have h1:E7 d=0:=by
  unfold BS at h;split at h
  .rename_i h1;exact absurd h h1
  rename_i h1;exact FT h1
 unfold E7 at h1;split at h1
 .cases h1
 exact Tq h1
theorem PN {d:List AJ} (h:BS d=0):∀x∈A2 d,x.2.length<=64:=by
 intro x hx;obtain⟨-,a,-⟩:=BB h;obtain⟨b,c,rfl⟩:=D5.1 hx;exact Qf (PM a) b c
theorem iH {all:List ByteArray} {l:List FV}:∀ {r:List FV} {k:Nat},dcG all l k r=0->∀y∈r,Ae all y.2=true
 | [],_,_,y,a=>by cases a
 | x :: r,k,h,y,a=>by
  simp only[dcG]at h;split at h
  .cases h
  split at h
  .cases h
  split at h
  .cases h
  rename_i b;rcases DO.1 a with rfl|a
  .simpa using b
  exact iH h y a
theorem ZF {all:List ByteArray}:∀ {l:List AJ},b4 all l=0->∀x∈l,∀y∈x.2.2,Ae all y.2=true
 | [],_,x,hx=>by cases hx
 | z :: l,h,x,hx=>by
  simp only[b4]at h;split at h
  .rename_i h1;exact absurd h h1
  rename_i h1;rcases DO.1 hx with rfl|hx
  .exact iH (FT h1)
  exact ZF h x hx
theorem xZ {d:List AJ} (h:BS d=0) (a:MQ d=0):A7q d (A2 d) :=
 ⟨λx hx=>Tm h hx,λx hx y b=>Tl h (ZF a x hx y b)⟩
theorem Wf (l:List (List Int)) (i k:Nat):l <+: HL l i k:=by
 unfold HL;split
 .exact AFh _ _
 exact ADy _
theorem Wg (i:Nat):∀(n k:Nat) (l:List (List Int)),l <+: HN i n k l
 | 0,_,l=>ADy l
 | n+1,k,l=>by
  unfold HN;split
  .exact(Wf l i k).trans (Wg i n (k+1) _)
  exact ADy l
theorem Wh:∀(n i:Nat) (l:List (List Int)),l <+: Jg n i l
 | 0,_,l=>ADy l
 | n+1,i,l=>by
  unfold Jg;split
  .exact(Wg i i 0 l).trans (Wh n (i+1) _)
  exact ADy l
theorem Qh {l m:List (List Int)} (h:l <+: m) {k:Nat} (hk:k<l.length):m.getD k []=l.getD k []:=by
 obtain⟨t,rfl⟩:=h;simp only[AS];rw[RZ hk]
def La (l:List (List Int)) (q p:Nat):Prop:=GJ (l.getD q []) (l.getD p [])=[]\/GJ (l.getD q []) (l.getD p [])∈l
theorem La.pre {l m:List (List Int)} (h:l <+: m) {q p:Nat} (b:q<l.length) (hp:p<l.length) (a:La l q p):La m q p:=by
 unfold La at a ⊢;rw[Qh h b,Qh h hp];rcases a with a|a
 .exact .inl a
 exact .inr (h.subset a)
theorem A7s {l:List (List Int)} {b:List Int} (h:nH l b=true):b∈l:=by
 obtain⟨x,hx,e⟩:=RT.1 h;have:x=b:=by simpa[IJ] using e
 rw[<-this];exact hx
theorem nY {l:List (List Int)} {i k:Nat} (hi:i<l.length) (hk:k<l.length):La (HL l i k) i k:=by
 have hp:=Wf l i k;unfold La;rw[Qh hp hi,Qh hp hk];unfold HL;split
 .right;simp
 rename_i a;rw[An,Do,RH]at a;by_cases h0:0<((GJ (l.getD i []) (l.getD k [])).length:Int)
 .right;cases hh:nH l (GJ (l.getD i []) (l.getD k [])) with
  | true=>exact A7s hh
  | false=>exact absurd ⟨h0,hh⟩ a
 left;exact RQ (by omega)
theorem Wi {i:Nat}:∀ {n k:Nat} {l:List (List Int)},n+k=i->i<l.length->(HN i n k l).length<=256->(∀p,p<k->La l i p)->∀p,p<i->La (HN i n k l) i p
 | 0,k,l,hn,hi,hl,h=>λp hp=>h p (by omega)
 | n+1,k,l,hn,hi,hl,h=>by
  unfold HN at hl ⊢;split at hl
  .rename_i a;rw[BY a];have hp:=Wf l i k;refine Wi (by omega) (bY hi hp.length_le) hl λp b=>?_;by_cases e:p=k
   .subst e;exact nY hi (by omega)
   exact(h p (by omega)).pre hp hi (by omega)
  rename_i a;exact absurd (by omega:l.length<=256) a
theorem Wj:∀ {n i:Nat} {l:List (List Int)},257<=n+i->(Jg n i l).length<=256->i<=l.length->(∀q p,p<q->q<i->La l q p)->∀q p,p<q->q<(Jg n i l).length->La (Jg n i l) q p
 | 0,i,l,hn,hl,d,h=>λq p b c=>by
  have g:l.length<=256:=hl;omega
 | n+1,i,l,hn,hl,d,h=>by
  unfold Jg at hl ⊢;split at hl
  .rename_i a;rw[BY a];have hp:=Wg i i 0 l;have j:=hp.length_le;have f:=(Wh n (i+1) (HN i i 0 l)).length_le;refine Wj (by omega) hl (by omega) λq p b c=>?_;by_cases e:q=i
   .subst e;exact Wi (by omega) a.1 (by omega) (λp hp=>by omega) p b
   exact(h q p b (by omega)).pre hp (by omega) (by omega)
  rename_i a;rw[As a];intro q p b c;exact h q p b (by
   refine FT λhh=>a ⟨by omega,hl⟩)
theorem b6 {c:List (List Int)} (hl:(A6 c).length<=256):∀q p,p<q->q<(A6 c).length->La (A6 c) q p :=
 Wj (by omega) hl (NO _) (λq p _ h=>by omega)
theorem A3q (a b:List Int) (k:Nat):(GJ a b).getD k 0=if k<a.length then B6 .and .u64 (a.getD k 0) (b.getD k 0) else 0:=by
 unfold GJ;rw[Qb];split
 .rename_i h;exact NM .and a b h
 rename_i h;rw[AS,RP (by rw[El];omega)];rfl
theorem G8 {b:List Int} {k:Nat} (h:¬k<b.length):b.getD k 0=0:=by
 rw[AS,RP (by omega)];rfl
theorem Um {a b:List Int} (ha:JJ a) (c:JJ b) (i:Nat):BZ (GJ a b) i=(BZ a i&&BZ b i):=by
 unfold BZ;rw[A3q];split
 .rw[IP (BC ha _) (BC c _),RK,Nat.testBit_and]
 rename_i h;rw[G8 h];simp
theorem b7 {a b:List Int} (ha:JJ a) (c:JJ b):JJ (GJ a b):=by
 refine Ox λx hx=>?_;unfold Gb at hx;obtain⟨i,-,rfl⟩:=GO.1 hx;rw[Hq,IP (BC ha _) (BC c _)];have h1:=BC ha i;have d:(a.getD i 0).toNat &&& (b.getD i 0).toNat<=(a.getD i 0).toNat:=AF9;have e:=h1.1;have f:=h1.2;exact⟨ADD _,by omega⟩
theorem SJ (b:List Int):∀n,Cs b n=0\/b.getD (Cs b n-1) 0≠0
 | 0=>.inl rfl
 | n+1=>by
  unfold Cs;split
  .exact SJ b n
  rename_i h;right;simpa using h
theorem A7t {n:Nat} (h0:n≠0) (h1:n<18446744073709551616):∃r,r<64/\n.testBit r=true:=by
 refine FT λb=>h0 ?_;refine Nat.eq_of_testBit_eq λr=>?_;rw[Nat.zero_testBit];by_cases c:r<64
 .cases a:n.testBit r with
  | false=>rfl
  | true=>exact absurd ⟨r,c,a⟩ b
 have e:(18446744073709551616:Nat)=2 ^ 64:=by decide
 rw[e]at h1;exact Nat.testBit_lt_two_pow (bY h1 (Nat.pow_le_pow_right (by decide) (by omega)))
theorem A3r {b:List Int} (a:JJ b) {k:Nat} (h:b.getD k 0≠0):∃i,BZ b i=true:=by
 have hu:=BC a k;have h1:=hu.1;have d:=hu.2;obtain⟨r,e,c⟩:=A7t (n:=(b.getD k 0).toNat) (by omega) (by omega);refine⟨64*k+r,?_⟩;unfold BZ;rw[show (64*k+r) / 64=k by omega,show (64*k+r) % 64=r by omega];exact c
theorem nZ {b:List Int} (a:JJ b) (h:BM b≠[]):∃i,BZ b i=true:=by
 rcases SJ b b.length with h1|h1
 .exact absurd (by unfold BM;rw[h1];rfl) h
 exact A3r a h1
theorem ZG {a b:List Int} (ha:JJ a) (c:JJ b) (h:∀i,BZ a i=true->BZ b i=true) (k:Nat):B6 .andNot .u64 (a.getD k 0) (b.getD k 0)=0:=by
 rw[SF];have:(BitVec.ofInt 64 (a.getD k 0) &&& ~~~BitVec.ofInt 64 (b.getD k 0))=0#64:=by
  apply BitVec.eq_of_getLsbD_eq;intro r d;rw[BitVec.getLsbD_and,BitVec.getLsbD_not,<-AEx,<-AEx,Fa (BC ha k),Fa (BC c k)];have hk:=h (64*k+r);unfold BZ at hk;rw[show (64*k+r) / 64=k by omega,show (64*k+r) % 64=r by omega]at hk;cases hx:(a.getD k 0).toNat.testBit r with
  | false=>simp
  | true=>rw[hk hx];simp
 rw[this];rfl
theorem Wk {a b:List Int} (ha:JJ a) (c:JJ b):Eu a b=true↔∀i,BZ a i=true->BZ b i=true:=by
 constructor
 .exact λh i hi=>MO ha c h hi
 intro h;unfold Eu R9 BM;have h1:Cs (Gb .andNot a b a.length) (Gb .andNot a b a.length).length=0:=by
  rw[El];exact SG λk hk=>by rw[NM _ _ _ hk];exact ZG ha c h k
 rw[h1];rfl
section
attribute [local go_sem] SI WQ nW b5 A7r
def PO (d:List AJ) (l:List AQ) (t:Nat) (s:ByteArray):Bool:=(Wd d l (t:Int) s).2&&((Wd d l (t:Int) s).1.length:Int)==0
def x5 (d:List AJ) (l:List AQ) (f:List ByteArray) (t:Nat):Bool:=f.any (PO d l t)
def MR (d:List AJ) (l:List AQ) (f:List ByteArray) (n:Nat):Bool:=(List.range n).any (x5 d l f)
theorem iI (d:List AJ) (l:List AQ) (f:List ByteArray) (n:Nat):MR d l f (n+1)=(MR d l f n||x5 d l f n):=by
 unfold MR;rw[S5,AEM];simp
def BW (d:List AJ):Int :=
 if (CB d).2≠0 then (CB d).2 else if 64<(DV d).length then 7 else if MQ d≠0 then MQ d else
 if ((DV d).all λs=>(Gf d s).2)=false then 10 else if MR d (CB d).1 (DV d) (CB d).1.length=true then 11 else 0
def Un:AZ:={ ins:=[E8],pre:=λ_=>True,out:=λ(d,_)=>[.p GI (BW d)] }
theorem ZH:Af Tryz.prog 156 Un:=by
 refine fK [0,2,3,4,5,6,7,9,10,11,12,13,20,26,30,35,48,52,58,77] Tryz.func156 Tryz.ntmps156 (AF Qg (AF WR (AF A3n (AF iD (AF A3p AH))))) ?_;rintro w0 O0 ⟨d,u⟩ b - -;simp only[Un,AM];repeat'(first|exact trivial|apply eS rfl|refine rX b ?_ ?_|refine rC ?_ ?_<;>intro a<;>try(cases a;done))
 .have h1:BW d=(CB d).2:=by unfold BW;rw[BY a]
  exact fI b [.tmp 2] (by rw[h1];exact eR)
 .have c:(CB d).2=0:=by simpa using a
  obtain⟨e,-,-⟩:=Bq c;obtain⟨-,r,-⟩:=BB e;exact⟨r,λx hx=>(LD e x hx).2⟩
 .have c:(CB d).2=0:=by simpa using ‹((CB d).2 != 0)=false›
  have h1:BW d=7:=by
   unfold BW;rw[As (by rw[c];simp),BY (by omega)]
  exact fI b [.tmp 2] (by rw[h1];exact eR)
 .have c:(CB d).2=0:=by simpa using ‹((CB d).2 != 0)=false›
  obtain⟨e,-,-⟩:=Bq c;exact(BB e).2.1
 .have c:(CB d).2=0:=by simpa using ‹((CB d).2 != 0)=false›
  have h1:BW d=MQ d:=by
   unfold BW;rw[As (by rw[c];simp),As (by omega),BY a]
  exact fI b [.tmp 2] (by rw[h1];exact eR)
 have c:(CB d).2=0:=by simpa using ‹((CB d).2 != 0)=false›
 have v:MQ d=0:=by simpa using a
 obtain⟨e,B,hl⟩:=Bq c;obtain⟨G,r,-⟩:=BB e;have D:=xZ e v;have J:=PN e;have K:=A7n e;have C:(A2 d).length<=256:=by rw[IT];exact B
 have g:BW d=if ((DV d).all λs=>(Gf d s).2)=false then 10 else if MR d (CB d).1 (DV d) (CB d).1.length=true then 11 else 0:=by
  unfold BW;rw[As (by rw[c];simp),As (by omega),As (by rw[v];simp)]
 rw[hl]at g ⊢;generalize A2 d=l at *;generalize DV d=f at *;refine AK (ι:={i:Nat//i<=f.length/\((f.take i).all λs=>(Gf d s).2)=true}) (λi=>⟨[(0,.p E8 d),(3,.p KA l),(5,.p GH f),(7,.p (.int .i64) (i.1:Int))],[]⟩) (λi=>f.length-i.1) ⟨0,NO _,rfl⟩ (eW []) (λi=>?_)
 obtain⟨i,hi,n⟩:=i;have F:=λh:i<f.length=>KB f ByteArray.empty (λs=>(Gf d s).2) h;simp only;repeat'(first|exact trivial|apply eS rfl|apply AB|refine rX b ?_ ?_|refine rC ?_ ?_<;>intro a<;>try(cases a;done))
 .exact⟨a,G,r⟩
 .have j:i<f.length:=IN.1 (by assumption);have z:(f.all λs=>(Gf d s).2)=false:=by
   rw[AEb];intro h;have:=ON.1 h _ (AE f ByteArray.empty j);rw[show (Gf d (f.getD i ByteArray.empty)).2=false from a]at this;cases this
  rw[BY z]at g;exact fI b [.tmp 2] (by rw[g];exact eR)
 .omega
 .have j:i<f.length:=IN.1 (by assumption);refine⟨⟨i+1,j,?_⟩,by simp only;omega,AC [] rfl rfl ?_ ?_⟩
  .rw[F j,n];exact a
  .exact eN
  exact eN
 have j:f.take i=f:=At (RJ.1 a);rw[j]at n;rw[As (by rw[n];simp)]at g;refine AK (ι:={t:Nat//t<=l.length/\MR d l f t=false}) (λt=>⟨[(0,.p E8 d),(3,.p KA l),(5,.p GH f),(10,.p (.int .i64) (t.1:Int))],[]⟩) (λt=>l.length-t.1) ⟨0,NO _,rfl⟩ (eW []) (λt=>?_)
 obtain⟨t,L,y⟩:=t;have I:=iI d l f t;simp only;repeat'(first|exact trivial|apply eS rfl|refine rX b ?_ ?_|refine rC ?_ ?_<;>intro a<;>try(cases a;done))
 .have w:t<l.length:=IN.1 a;refine AK (ι:={k:Nat//k<=f.length/\(f.take k).any (PO d l t)=false}) (λk=>⟨[(0,.p E8 d),(3,.p KA l),(5,.p GH f),(10,.p (.int .i64) (t:Int)),(11,.p (.int .i64) (k.1:Int))],[]⟩) (λk=>f.length-k.1) ⟨0,NO _,rfl⟩ (eW []) (λk=>?_)
  obtain⟨k,hk,o⟩:=k;have E:=λh:k<f.length=>NK f ByteArray.empty (PO d l t) h;simp only;repeat'(first|exact trivial|apply eS rfl|apply AB|refine rX b ?_ ?_|refine rC ?_ ?_<;>intro a<;>try(cases a;done))
  .exact⟨a,D,by assumption,C,J⟩
  .have m:k<f.length:=IN.1 (by assumption);have q:PO d l t (f.getD k ByteArray.empty)=true:=by
    unfold PO;rw[An,S1];exact a
   have A:MR d l f l.length=true:=by
    unfold MR;rw[RT];exact⟨t,RY.2 w,JF f ByteArray.empty _ m q⟩
   rw[BY A]at g;exact fI b [.tmp 2] (by rw[g];exact eR)
  .omega
  .have m:k<f.length:=IN.1 (by assumption);have q:PO d l t (f.getD k ByteArray.empty)=false:=by
    rw[AEb];unfold PO;intro h;rw[An,S1]at h;exact a h.1 h.2
   refine⟨⟨k+1,m,?_⟩,by simp only;omega,AC [] rfl rfl ?_ ?_⟩
   .rw[E m,o,q];rfl
   .exact eN
   exact eN
  .omega
  have m:f.take k=f:=At (RJ.1 a);rw[m]at o;refine⟨⟨t+1,w,?_⟩,by simp only;omega,AC [] rfl rfl ?_ ?_⟩
  .rw[I,y];exact o
  .exact eN
  exact eN
 have H:t=l.length:=by exact eV
 subst H;rw[As (by rw[y];simp)]at g;exact fI b [.tmp 2] (by rw[g];exact eR)
end
section
attribute [local go_sem] Un SI WQ b5 Ul
abbrev Wl:=ByteArray×Int
theorem Cg {d:List AJ} (h:BW d=0):(CB d).2=0/\(DV d).length<=64/\MQ d=0:=by
 unfold BW at h;split at h
 .rename_i h1;exact absurd h h1
 rename_i h1;split at h
 .cases h
 rename_i b;split at h
 .rename_i a;exact absurd h a
 rename_i a;exact⟨FT h1,by omega,FT a⟩
def Tr (d:List AJ) (s:ByteArray):Wl:=(s,Da (A2 d) (Gf d s).1)
def Dh (d:List AJ):List Wl×Int:=if BW d≠0 then ([],BW d) else ((DV d).map (Tr d),0)
theorem CL {α β:Type} (f:α->β) (l:List α) (d:α) {k:Nat} (h:k<l.length):(l.take (k+1)).map f=(l.take k).map f++[f (l.getD k d)]:=by
 rw[Au l d h,Sw];rfl
theorem b8 {α β:Type} (f:α->β) (l:List α) {k:Nat} (h:k<=l.length):((l.take k).map f).length=k:=by simp[h]
def SK:AZ:={ ins:=[E8],pre:=λ_=>True,out:=λ(d,_)=>[.p rE (Dh d).1,.p GI (Dh d).2] }
theorem iJ:Af Tryz.prog 120 SK:=by
 refine fK [0,2,3,4,5,7,8,9,10,15,27] Tryz.func120 Tryz.ntmps120 (AF ZH (AF Qg (AF WR (AF iD (AF Y7 AH))))) ?_;rintro w0 O0 ⟨d,u⟩ g - -;simp only[SK,AM];repeat'(first|exact trivial|apply eS rfl|refine rX g ?_ ?_|refine rC ?_ ?_<;>intro a<;>try(cases a;done))
 .have h1:Dh d=([],BW d):=by unfold Dh;rw[BY a]
  exact fI g [.tmp 2,.tmp 3] (by rw[h1];exact eR)
 .have c:BW d=0:=by simpa using a
  obtain⟨k,-,-⟩:=Cg c;obtain⟨b,-,-⟩:=Bq k;exact⟨(BB b).2.1,λx hx=>(LD b x hx).2⟩
 have c:BW d=0:=by simpa using a
 obtain⟨k,q,-⟩:=Cg c;obtain⟨b,-,hl⟩:=Bq k;obtain⟨o,l,-⟩:=BB b;have n:Dh d=((DV d).map (Tr d),0):=by unfold Dh;rw[As (by rw[c];simp)]
 rw[hl];generalize DV d=f at *;refine AK (ι:={i:Nat//i<=f.length}) (λi=>⟨[(0,.p E8 d),(5,.p KA (A2 d)),(7,.p GH f),(8,.sr 49 A2N 0 ((f.take i.1).map (Tr d)).length),(9,.p (.int .i64) (i.1:Int))],[(49,.arr 163 A2N ((f.take i.1).map (Tr d)))]⟩) (λi=>f.length-i.1) ⟨0,NO _⟩ (eW [(49,.nil)]) (λi=>?_)
 obtain⟨i,hi⟩:=i;have m:=b8 (Tr d) f hi;have hs:=λh:i<f.length=>CL (Tr d) f ByteArray.empty h;simp only;repeat'(first|exact trivial|apply eS rfl|apply AB|refine rX g ?_ ?_|refine rC ?_ ?_<;>intro a<;>try(cases a;done))
 .exact⟨a,o,l⟩
 .refine⟨a,?_⟩;rw[m];simp only[AO];omega
 .omega
 .have j:i<f.length:=IN.1 a;have e:=hs j;refine⟨⟨i+1,j⟩,by simp only;omega,AC [(49,.nm 49)] rfl rfl ?_ ?_⟩
  .simp only[e];refine eM ?_;rfl
  simp only[e];exact eN
 have j:f.take i=f:=At (RJ.1 a);rw[j];refine F0 [49] ?_;exact fI g [.tmp 2,.tmp 3] (by rw[n];exact eR)
end
section
attribute [local go_sem] Un SI WQ A7r nI
def b9 (d:List AJ) (l:List AQ) (f:List ByteArray) (t:Nat) (n:Nat):List (Int×Int) :=
 ((List.range n).filter λ(i:Nat)=>(Wd d l (t:Int) (f.getD i ByteArray.empty)).2).map λ(i:Nat)=>((i:Int),bQ l (Wd d l (t:Int) (f.getD i ByteArray.empty)).1)
def MS (d:List AJ) (l:List AQ) (f:List ByteArray) (n:Nat):List (List (Int×Int)):=(List.range n).map λt=>b9 d l f t f.length
def BX (d:List AJ):List (List (Int×Int))×Int:=if BW d≠0 then ([],BW d) else (MS d (A2 d) (DV d) (A2 d).length,0)
theorem A0E (d:List AJ) (l:List AQ) (f:List ByteArray) (t n:Nat):b9 d l f t (n+1)=b9 d l f t n++if (Wd d l (t:Int) (f.getD n ByteArray.empty)).2=true then [((n:Int),bQ l (Wd d l (t:Int) (f.getD n ByteArray.empty)).1)] else []:=by
 unfold b9;rw[S5,AEJ,Sw]
 congr 1
 rw[AAf,AEW];split<;>rfl
theorem A3s (d:List AJ) (l:List AQ) (f:List ByteArray) (t n:Nat):(b9 d l f t n).length<=n:=by
 unfold b9;rw[OR];exact RG (AAw _ _) (by simp)
theorem n4 (d:List AJ) (l:List AQ) (f:List ByteArray) (n:Nat):MS d l f (n+1)=MS d l f n++[b9 d l f n f.length]:=by simp[MS,S5]
theorem ZI (d:List AJ) (l:List AQ) (f:List ByteArray) (n:Nat):(MS d l f n).length=n:=by simp[MS]
theorem A3t {d:List AJ} {l:List AQ} (h:∀x∈l,x.2.length<=64) (t:Int) (s:ByteArray):(Wd d l t s).1.length<=64:=by
 unfold Wd;refine We t s d ?_;rw[AS];cases hh:l[0]? with
 | none=>simp
 | some x=>exact h x (oF hh)
def Wm:AZ:={ ins:=[E8],pre:=λ_=>True,out:=λ(d,_)=>[.p A61 (BX d).1,.p GI (BX d).2] }
theorem n5:Af Tryz.prog 117 Wm:=by
 refine fK [0,2,3,4,5,7,8,9,10,11,12,13,17,29,35,49] Tryz.func117 Tryz.ntmps117 (AF ZH (AF Qg (AF WR (AF A3p (AF A3b AH))))) ?_;rintro w0 O0 ⟨d,u⟩ e - -;simp only[Wm,AM];repeat'(first|exact trivial|apply eS rfl|refine rX e ?_ ?_|refine rC ?_ ?_<;>intro a<;>try(cases a;done))
 .have h1:BX d=([],BW d):=by unfold BX;rw[BY a]
  exact fI e [.tmp 2,.tmp 3] (by rw[h1];exact eR)
 .have h:BW d=0:=by simpa using a
  obtain⟨m,-,-⟩:=Cg h;obtain⟨b,-,-⟩:=Bq m;exact⟨(BB b).2.1,λx hx=>(LD b x hx).2⟩
 have h:BW d=0:=by simpa using a
 obtain⟨m,z,o⟩:=Cg h;obtain⟨b,j,hl⟩:=Bq m;obtain⟨B,y,-⟩:=BB b;have w:BX d=(MS d (A2 d) (DV d) (A2 d).length,0):=by unfold BX;rw[As (by rw[h];simp)]
 have v:=xZ b o;have n:=PN b;have r:(A2 d).length<=256:=by rw[IT];exact j
 rw[hl];generalize A2 d=l at *;generalize DV d=f at *;have q:=λt s=>A3t (d:=d) n t s;refine AK (ι:={t:Nat//t<=l.length}) (λt=>⟨[(0,.p E8 d),(5,.p KA l),(7,.p GH f),(8,.sr 61 bF 0 (MS d l f t.1).length),(9,.p (.int .i64) (t.1:Int))],[(61,.arr 142 bF (MS d l f t.1))]⟩) (λt=>l.length-t.1) ⟨0,NO _⟩ (AC [(61,.nil)] rfl rfl ?_ ?_) (λt=>?_)
 .refine eM ?_;rfl
 .refine eM ?_;rfl
 obtain⟨t,C⟩:=t;have j:=ZI d l f t;have hs:=n4 d l f t;simp only;repeat'(first|exact trivial|apply eS rfl|refine rX e ?_ ?_|refine rC ?_ ?_<;>intro a<;>try(cases a;done))
 .refine AK (ι:={i:Nat//i<=f.length}) (λi=>⟨[(0,.p E8 d),(5,.p KA l),(7,.p GH f),(8,.sr 61 bF 0 (MS d l f t).length),(9,.p (.int .i64) (t:Int)),(10,.sr 57 A2O 0 (b9 d l f t i.1).length),(11,.p (.int .i64) (i.1:Int))],[(61,.arr 142 bF (MS d l f t)),(57,.arr 170 A2O (b9 d l f t i.1))]⟩) (λi=>f.length-i.1) ⟨0,NO _⟩ (AC [(61,.nm 61),(57,.nil)] rfl rfl ?_ ?_) (λi=>?_)
  .refine eM ?_;rfl
  .refine eM ?_;rfl
  obtain⟨i,hi⟩:=i;have A:=A3s d l f t i;have c:=A0E d l f t i;simp only;repeat'(first|exact trivial|apply eS rfl|apply AB|refine rX e ?_ ?_|refine rC ?_ ?_<;>intro a<;>try(cases a;done))
  .exact⟨a,v,by assumption,r,n⟩
  .refine⟨RG (q _ _) (by decide),?_⟩;simp only[AO];omega
  .omega
  .have g:i<f.length:=IN.1 (by assumption);rw[BY a]at c;refine⟨⟨i+1,g⟩,by simp only;omega,AC [(61,.nm 61),(57,.nm 57)] rfl rfl ?_ ?_⟩
   .simp only[c];exact eN
   simp only[c];exact eN
  .omega
  .have g:i<f.length:=IN.1 (by assumption);rw[As (by rw[a];simp),Ra]at c;refine⟨⟨i+1,g⟩,by simp only;omega,AC [(61,.nm 61),(57,.nm 57)] rfl rfl ?_ ?_⟩
   .simp only[c];exact eN
   simp only[c];exact eN
  .rw[j];simp only[AO];omega
  .omega
  have k:t<l.length:=IN.1 (by assumption);have g:i=f.length:=by omega
  subst g;refine⟨⟨t+1,k⟩,by simp only;omega,AC [(61,.nm 61)] rfl rfl ?_ ?_⟩
  .simp only[hs];exact eN
  simp only[hs];exact eN
 have k:t=l.length:=by omega
 subst k;refine F0 [61] ?_;exact fI e [.tmp 2,.tmp 3] (by rw[w];exact eR)
end
section
attribute [local go_sem] cs0
def Lb (l:List ByteArray) (n:Nat):List FV:=(List.range n).map λk=>(l.getD (2*k) ByteArray.empty,l.getD (2*k+1) ByteArray.empty)
theorem Wn (l:List ByteArray) (n:Nat):Lb l (n+1)=Lb l n++[(l.getD (2*n) ByteArray.empty,l.getD (2*n+1) ByteArray.empty)]:=by simp[Lb,S5]
theorem ZJ (l:List ByteArray) (n:Nat):(Lb l n).length=n:=by simp[Lb]
def cA (s:ByteArray):List ByteArray:=if Ac s ByteArray.empty=true then [] else [s]
def GM (n s:ByteArray) (l:List ByteArray):AJ:=(n,cA s,Lb l (l.length / 2))
def A3u:AZ:={ ins:=[T9,T9,GH],pre:=λ(_,_,l,_)=>List.length l<=1000,out:=λ(n,s,l,_)=>[.p A0h (GM n s l)] }
theorem A7u:Af Tryz.prog 121 A3u:=by
 refine fK [0,1,2,6,7,8,12,20] Tryz.func121 Tryz.ntmps121 AH ?_;rintro w0 O0 ⟨n,s,l,u⟩ b-hl;have hl:l.length<=1000:=hl;simp only[A3u,AM];repeat'(first|exact trivial|apply eS rfl|apply AB|refine rX b ?_ ?_|refine rC ?_ ?_<;>intro a<;>try(cases a;done))
 .have e:=a;refine F0 [14] ?_;refine AK (ι:={k:Nat//2*k<=l.length}) (λk=>⟨[(2,.p GH l),(6,.bp 6 [] 0),(7,.bp 7 [] 0),(8,.p (.int .i64) ((2*k.1:Nat):Int))],[(6,.box 158 true [.p T9 ByteArray.empty,.raw (.slice none 0 0),.raw (.slice none 0 0)]),(7,.box 158 true [.p T9 n,.p GH [s],.sr 36 mV 0 (Lb l k.1).length]),(36,.arr 161 mV (Lb l k.1))]⟩) (λk=>l.length-2*k.1) ⟨0,NO _⟩ (AC [(6,.nm 6),(7,.nm 7),(36,.nil)] rfl rfl ?_ ?_) (λk=>?_)
  .first|exact eN|refine eM ?_
   exact⟨rfl,rfl⟩
  .first|exact eN|refine eM ?_
  obtain⟨k,hk⟩:=k;have f:=ZJ l k;have d:=Wn l k;simp only;repeat'(first|exact trivial|apply eS rfl|apply AB|refine rX b ?_ ?_|refine rC ?_ ?_<;>intro a<;>try(cases a;done))
  .exact eV
  .refine⟨by exact eV,⟨by exact eV,by exact eV⟩,⟨by exact eV,by exact eV⟩,?_⟩;rw[f];simp only[AO];exact eV
  .exact eV
  .have c:2*k+1<l.length:=by exact eV
   have e1:((2*k:Nat):Int)+1=((2*k+1:Nat):Int):=by omega
   refine⟨⟨k+1,by omega⟩,by simp only;omega,AC [(6,.nm 6),(7,.nm 7),(36,.nm 36)] rfl rfl ?_ ?_⟩
   .simp only[d];first|exact eN|refine eM ?_
    rw[e1];rfl
   simp only[d];first|exact eN|refine eM ?_
   show ((2*k:Nat):Int)+2=((2*(k+1):Nat):Int);omega
  have c:k=l.length / 2:=by exact eV
  refine F0 [36] ?_;have g:GM n s l=(n,[s],Lb l k):=by
   unfold GM cA;rw[<-c,As (by rw[show Ac s ByteArray.empty=false from e];simp)]
  exact fI b [.cell 6 158] (by rw[g];exact eR)
 have e:=a;refine AK (ι:={k:Nat//2*k<=l.length}) (λk=>⟨[(2,.p GH l),(6,.bp 6 [] 0),(7,.bp 7 [] 0),(8,.p (.int .i64) ((2*k.1:Nat):Int))],[(6,.box 158 true [.p T9 ByteArray.empty,.raw (.slice none 0 0),.raw (.slice none 0 0)]),(7,.box 158 true [.p T9 n,.p GH ([]:List ByteArray),.sr 36 mV 0 (Lb l k.1).length]),(36,.arr 161 mV (Lb l k.1))]⟩) (λk=>l.length-2*k.1) ⟨0,NO _⟩ (AC [(6,.nm 6),(7,.nm 7),(36,.nil)] rfl rfl ?_ ?_) (λk=>?_)
 .first|exact eN|refine eM ?_
  exact⟨rfl,rfl⟩
 .first|exact eN|refine eM ?_
 obtain⟨k,hk⟩:=k;have f:=ZJ l k;have d:=Wn l k;simp only;repeat'(first|exact trivial|apply eS rfl|apply AB|refine rX b ?_ ?_|refine rC ?_ ?_<;>intro a<;>try(cases a;done))
 .exact eV
 .refine⟨by exact eV,⟨by exact eV,by exact eV⟩,⟨by exact eV,by exact eV⟩,?_⟩;rw[f];simp only[AO];exact eV
 .exact eV
 .have c:2*k+1<l.length:=by exact eV
  have e1:((2*k:Nat):Int)+1=((2*k+1:Nat):Int):=by omega
  refine⟨⟨k+1,by omega⟩,by simp only;omega,AC [(6,.nm 6),(7,.nm 7),(36,.nm 36)] rfl rfl ?_ ?_⟩
  .simp only[d];first|exact eN|refine eM ?_
   rw[e1];rfl
  simp only[d];first|exact eN|refine eM ?_
  show ((2*k:Nat):Int)+2=((2*(k+1):Nat):Int);omega
 have c:k=l.length / 2:=by exact eV
 refine F0 [36] ?_;have g:GM n s l=(n,([]:List ByteArray),Lb l k):=by
  unfold GM cA;rw[<-c,BY (show Ac s ByteArray.empty=true from e)]
 exact fI b [.cell 6 158] (by rw[g];exact eR)
end
section
attribute [local go_sem] A3u cs0 cs1 cs2 cs3 cs4 cs5 cs6 cs7 cs8
def KD:List AJ:=[
 GM { data:=#[116,111,112] } { data:=#[] } [],
 GM { data:=#[108,105,115,116] } { data:=#[116,111,112] } [],
 GM { data:=#[99,111,110,115] } { data:=#[108,105,115,116] } [{ data:=#[70,73,82,83,84] },{ data:=#[116,111,112] },{ data:=#[82,69,83,84] },{ data:=#[108,105,115,116] }],
 GM { data:=#[110,117,108,108] } { data:=#[108,105,115,116] } [],
 GM { data:=#[100,108,105,115,116] } { data:=#[116,111,112] } [{ data:=#[76,73,83,84] },{ data:=#[108,105,115,116] },{ data:=#[76,65,83,84] },{ data:=#[108,105,115,116] }],
 GM { data:=#[105,110,100,101,120] } { data:=#[116,111,112] } [],
 GM { data:=#[104,97,110,100,108,101] } { data:=#[105,110,100,101,120] } [],
 GM { data:=#[101,118,101,110,116] } { data:=#[105,110,100,101,120] } [],
 GM { data:=#[101,110,116,105,116,121] } { data:=#[105,110,100,101,120] } [],
 GM { data:=#[114,101,108] } { data:=#[116,111,112] } [{ data:=#[76,65,66,69,76] },{ data:=#[104,97,110,100,108,101] }],
 GM { data:=#[113,101,113] } { data:=#[116,111,112] } [{ data:=#[72,73,71,72] },{ data:=#[104,97,110,100,108,101] },{ data:=#[76,79,87] },{ data:=#[104,97,110,100,108,101] }],
 GM { data:=#[115,101,109] } { data:=#[116,111,112] } [{ data:=#[84,79,80] },{ data:=#[104,97,110,100,108,101] },{ data:=#[73,78,68,69,88] },{ data:=#[105,110,100,101,120] },{ data:=#[82,69,76,83] },{ data:=#[100,108,105,115,116] },{ data:=#[67,79,78,83] },{ data:=#[100,108,105,115,116] }],
 GM { data:=#[115,105,103,110] } { data:=#[116,111,112] } [{ data:=#[83,69,77] },{ data:=#[115,101,109] },{ data:=#[65,82,71,83] },{ data:=#[108,105,115,116] }]]
def MT:AZ:={ ins:=[],pre:=λ_=>True,out:=λ_=>[.p E8 KD] }
theorem n6:Af Tryz.prog 63 MT:=by
 refine fKP [0] [3,6,12,14,16,18,20] [] Tryz.func63 Tryz.ntmps63 (AF A7u AH) ?_;rintro w0 O0 u a - -;simp only[MT,AM];repeat'(first|exact trivial|apply eS rfl|refine rX a ?_ ?_)
 exact fI a [.tmp 0] (by unfold KD;exact eR)
end
section
attribute [local go_sem] Wm SI A3l SK
abbrev F4:=ByteArray×List Int×List Int×List (Int×Int)
abbrev AG:=List F4×List Wl
def FH (l:List AQ) (v:List (List (Int×Int))) (n:Nat):List F4:=(List.range n).map λi=>((l.getD i c0).1,(l.getD i c0).2,iC l (i:Int),v.getD i [])
theorem n7 (l:List AQ) (v:List (List (Int×Int))) (n:Nat):FH l v (n+1)=FH l v n++[((l.getD n c0).1,(l.getD n c0).2,iC l (n:Int),v.getD n [])]:=by simp[FH,S5]
theorem NS (l:List AQ) (v:List (List (Int×Int))) (n:Nat):(FH l v n).length=n:=by simp[FH]
def G9 (d:List AJ):AG:=(FH (A2 d) (BX d).1 (A2 d).length,(Dh d).1)
def A1 (d:List AJ):AG×Int:=if (BX d).2≠0 then (([],[]),(BX d).2) else (G9 d,0)
def KE:AZ:={ ins:=[E8],pre:=λ_=>True,out:=λ(d,_)=>[.p Dn (A1 d).1,.p GI (A1 d).2] }
theorem n8:Af Tryz.prog 62 KE:=by
 refine fK [0,2,3,4,5,6,8,9,10,18,29] Tryz.func62 Tryz.ntmps62 (AF n5 (AF Qg (AF A7o (AF iJ AH)))) ?_;rintro w0 O0 ⟨d,u⟩ b - -;simp only[KE,AM];repeat'(first|exact trivial|apply eS rfl|refine rX b ?_ ?_|refine rC ?_ ?_<;>intro a<;>try(cases a;done))
 .have h1:A1 d=(([],[]),(BX d).2):=by unfold A1;rw[BY a]
  exact fI b [.cell 2 31,.tmp 3] (by rw[h1];exact eR)
 have c:(BX d).2=0:=by simpa using a
 have f:BW d=0:=by
  unfold BX at c;split at c
  .rename_i h;exact absurd c h
  rename_i h;exact FT h
 obtain⟨s,w,t⟩:=Cg f;obtain⟨j,k,hl⟩:=Bq s;have g:A1 d=(G9 d,0):=by unfold A1;rw[As (by rw[c];simp)]
 have q:(BX d).1.length=(A2 d).length:=by
  unfold BX;rw[As (by rw[f];simp)];exact ZI _ _ _ _
 have r:=PN j;have m:(A2 d).length<=256:=by rw[IT];exact k
 unfold G9 at g;rw[hl];generalize A2 d=l at *;generalize (BX d).1=v at *;refine AK (ι:={n:Nat//n<=l.length}) (λn=>⟨[(0,.p E8 d),(2,.bp 2 [] 0),(4,.p A61 v),(6,.p KA l),(8,.bp 8 [] 0),(9,.p (.int .i64) (n.1:Int))],[(2,.box 31 true [.raw (.slice none 0 0),.raw (.slice none 0 0)]),(8,.box 31 true [.sr 53 mW 0 (FH l v n.1).length,.raw (.slice none 0 0)]),(53,.arr 144 mW (FH l v n.1))]⟩) (λn=>l.length-n.1) ⟨0,NO _⟩ (AC [(2,.nm 2),(8,.nm 8),(53,.nil)] rfl rfl ?_ ?_) (λn=>?_)
 .refine eM ?_;exact⟨rfl,rfl⟩
 .exact eN
 obtain⟨n,hn⟩:=n;have o:=NS l v n;have i:=n7 l v n;simp only;repeat'(first|exact trivial|apply eS rfl|apply AB|refine rX b ?_ ?_|refine rC ?_ ?_<;>intro a<;>try(cases a;done))
 .refine⟨a,a,⟨a,m,r⟩,by rw[q];exact a,?_⟩;rw[o];simp only[AO];omega
 .omega
 .have e:n<l.length:=IN.1 a;refine⟨⟨n+1,e⟩,by simp only;omega,AC [(2,.nm 2),(8,.nm 8),(53,.nm 53)] rfl rfl ?_ ?_⟩
  .simp only[i];exact eN
  simp only[i];exact eN
 have e:n=l.length:=by omega
 subst e;refine F0 [53] ?_;exact fI b [.cell 2 31,.tmp 3] (by rw[g];exact eR)
def GN (d:List AJ):AG:=if d.length<=20/\(A1 d).2=0 then (A1 d).1 else (A1 KD).1
end
section
def n9:AZ:={ ins:=[BG,T3],pre:=λ(_,i,_)=>(0:Int)<=i,out:=λ(b,i,_)=>[.p QU (GL b i)],lend:=true }
attribute [local go_sem] n9
theorem A3v:Af Tryz.prog 175 n9:=by
 refine fK [0,1,4,8] Tryz.func175 Tryz.ntmps175 AH ?_;rintro w0 O0 ⟨b,i,u⟩ c-hi;simp only[n9,AM];repeat'(first|exact trivial|apply eS rfl|refine rX c ?_ ?_|refine rC ?_ ?_<;>intro a<;>try(cases a;done))
 .exact⟨hi,a⟩
 .have h1:GL b i=b.getD i.toNat 0:=by unfold GL;rw[BY a]
  exact fI c [.tmp 4] (by rw[h1];exact eR)
 have h1:GL b i=0:=by unfold GL;rw[As (AE3.2 a)]
 exact fI c [.tmp 4] (by rw[h1];exact eR)
def MU (a b:List Int):Bool:=(List.range a.length).all λi=>B6 .andNot .u64 (a.getD i 0) (GL b (i:Int))==0
def iK (a b:List Int) (n:Nat):Bool:=(List.range n).all λi=>B6 .andNot .u64 (a.getD i 0) (GL b (i:Int))==0
theorem oA (a b:List Int) (n:Nat):iK a b (n+1)=(iK a b n&&B6 .andNot .u64 (a.getD n 0) (GL b (n:Int))==0):=by
 unfold iK;rw[S5,AEB];simp
def Qi:AZ:={ ins:=[BG,BG],pre:=λ_=>True,out:=λ(a,b,_)=>[.p .bool (MU a b)],lend:=true }
attribute [local go_sem] Qi
theorem Wo:Af Tryz.prog 133 Qi:=by
 refine fK [0,1,4,5,6,7,8,9,10,19] Tryz.func133 Tryz.ntmps133 (AF A3v AH) ?_;rintro w0 O0 ⟨a,b,u⟩ e ⟨⟨g,-⟩,-⟩ -;simp only[AO]at g;simp only[Qi,AM];repeat'(first|exact trivial|apply eS rfl|refine rX e ?_ ?_)
 have h:MU a b=iK a b a.length:=rfl;refine AK (ι:={n:Nat//n<=a.length/\iK a b n=true}) (λn=>⟨[(1,.p BG b),(7,.p BG a),(8,.p (.int .i64) (a.length:Int)),(9,.p (.int .i64) (n.1:Int))],[]⟩) (λn=>a.length-n.1) ⟨0,NO _,rfl⟩ (eW []) (λn=>?_)
 obtain⟨n,hn,f⟩:=n;have hs:=oA a b n;simp only;repeat'(first|exact trivial|apply eS rfl|apply AB|refine rX e ?_ ?_|refine rC ?_ ?_<;>intro d<;>try(cases d;done))
 .exact d
 .have c:n<a.length:=by exact eV
  have h1:MU a b=false:=by
   unfold MU;rw[AEA];exact⟨n,RY.2 c,by simpa using d⟩
  exact fI e [.tmp 4] (by rw[h1];exact eR)
 .exact eV
 .have c:n<a.length:=by exact eV
  refine⟨⟨n+1,c,?_⟩,by simp only;omega,AC [] rfl rfl ?_ ?_⟩
  .rw[hs,f];simpa using d
  .exact eN
  exact eN
 have c:n=a.length:=by exact eV
 subst c;exact fI e [.tmp 4] (by rw[h,f];exact eR)
abbrev SL:F4:=(ByteArray.empty,[],[],[])
def Av (h:AG) (a b:Int):Bool:=MU (h.1.getD b.toNat SL).2.1 (h.1.getD a.toNat SL).2.1
def Wp:AZ:={ ins:=[Dn,T3,T3],pre:=λ(h,a,b,_)=>((0:Int)<=a/\a<(List.length (h:AG).1:Int))/\((0:Int)<=b/\b<(List.length (h:AG).1:Int)),out:=λ(h,a,b,_)=>[.p .bool (Av h a b)],lend:=true }
theorem x6:Af Tryz.prog 84 Wp:=by
 refine fK [0,1,2,3,6] Tryz.func84 Tryz.ntmps84 (AF Wo AH) ?_;rintro w0 O0 ⟨⟨e,hf⟩,a,b,u⟩ c-⟨ha,d⟩;simp only[Wp,AM];repeat'(first|exact trivial|apply eS rfl|refine rX c ?_ ?_)
 .exact⟨d,ha⟩
 exact fI c [.tmp 6] (by unfold Av;exact eR)
end
section
attribute [local go_sem] Qi
def Wq:AZ:={ ins:=[BG],pre:=λ(b,_)=>List.length b<=100000,out:=λ(b,_)=>[.p BG (BM b)] }
attribute [local go_sem] Wq
theorem oB:Af Tryz.prog 212 Wq:=by
 refine fK [0,2,3,15] Tryz.func212 Tryz.ntmps212 AH ?_;rintro w0 O0 ⟨b,u⟩ d-f;have f:b.length<=100000:=f;simp only[Wq,AM];repeat'(first|exact trivial|apply eS rfl|refine rX d ?_ ?_)
 refine AK (ι:={n:Nat//n<=b.length/\Cs b n=Cs b b.length}) (λn=>⟨[(0,.p BG b),(3,.p (.int .i64) (n.1:Int))],[]⟩) (λn=>n.1) ⟨b.length,If _,rfl⟩ (eW []) (λn=>?_)
 obtain⟨n,hn,g⟩:=n;simp only;repeat'(first|apply eS rfl|apply AB|refine rX d ?_ ?_|refine rC ?_ ?_<;>intro c<;>try(cases c;done))
 .constructor
  .exact eV
  intro h;refine⟨?_,?_⟩<;>exact eV
 .exact eV
 .obtain⟨h1,a⟩:=c;obtain⟨m,rfl⟩:∃m,n=m+1:=⟨n-1,by omega⟩;have e:(((m+1:Nat):Int)-1)=(m:Int):=by omega
  rw[e]at a;have a:b.getD m 0=0:=a;have j:Cs b m=Cs b b.length:=by
   rw[<-g];show _=if b.getD m 0=0 then Cs b m else m+1
   rw[BY a]
  refine⟨⟨m,by omega,j⟩,by simp,AC [] rfl rfl ?_ ?_⟩
  .exact eN
  simp only[e];exact eN
 .exact RJ.2 hn
 have i:Cs b n=n:=by
  cases n with
  | zero=>rfl
  | succ m =>
   have e:(((m+1:Nat):Int)-1)=(m:Int):=by omega
   rw[e]at c;have a:=c (by omega);have a:¬b.getD m 0=0:=a;show (if b.getD m 0=0 then Cs b m else m+1)=m+1;rw[As a]
 have h1:BM b=b.take n:=by unfold BM;rw[<-g,i]
 rw[<-h1];exact fI d [.tmp 2]
def HA (g:Nat->Int) (n i:Nat):List Int:=(List.range n).map λj=>if j<i then g j else 0
theorem ZK (g:Nat->Int) (n i:Nat):(HA g n i).length=n:=by simp[HA]
theorem oC (g:Nat->Int) (n:Nat):HA g n 0=List.replicate n 0:=by
 apply iS
 .simp[HA]
 intro j h1 a;simp[HA]
theorem A0F (g:Nat->Int) (n i:Nat):(HA g n i).set i (g i)=HA g n (i+1):=by
 apply iS
 .simp[HA]
 intro j h1 b;simp only[HA,List.getElem_set,AEq,AEt];split
 .rename_i e;rw[BY (by omega),e]
 rename_i e;by_cases a:j<i
 .rw[BY a,BY (by omega)]
 rw[As a,As (by omega)]
def cB (a b:List Int) (i:Nat):Int:=B6 .and .u64 (a.getD i 0) (b.getD i 0)
def F5 (a b:List Int):List Int:=BM (HA (cB a b) (min a.length b.length) (min a.length b.length))
def A3w:AZ:={ ins:=[BG,BG],pre:=λ(a,_,_)=>List.length a<=100000,out:=λ(a,b,_)=>[.p BG (F5 a b)] }
attribute [local go_sem] A3w
theorem A7v:Af Tryz.prog 176 A3w:=by
 refine fK [0,1,4,5,6,14,15,16] Tryz.func176 Tryz.ntmps176 (AF oB AH) ?_;rintro w0 O0 ⟨a,b,u⟩ d-ha;have ha:a.length<=100000:=ha;simp only[A3w,AM];repeat'(first|exact trivial|apply eS rfl|refine rX d ?_ ?_)
 .split<;>simp only[AO]<;>dsimp only[Ty.den]at *<;>omega
 have h:Int.toNat (if ((List.length b:Nat):Int)<((List.length a:Nat):Int) then ((List.length b:Nat):Int) else ((List.length a:Nat):Int))=min (List.length a) (List.length b):=by split<;>omega
 rw[h];have j:F5 a b=BM (HA (cB a b) (min a.length b.length) (min a.length b.length)):=rfl;have k:min a.length b.length<=a.length:=Nat.min_le_left _ _;have l:min a.length b.length<=b.length:=Nat.min_le_right _ _;generalize min a.length b.length=n at *;refine AK (ι:={i:Nat//i<=n}) (λi=>⟨[(0,.p BG a),(1,.p BG b),(5,.sr 12 QU 0 n),(14,.p (.int .i64) (n:Int)),(15,.p (.int .i64) (i.1:Int))],[(12,.arr 186 QU (HA (cB a b) n i.1))]⟩) (λi=>n-i.1) ⟨0,NO _⟩ (AC [(12,.nm 12)] rfl rfl ?_ ?_) (λi=>?_)
 .refine eM ?_;rw[oC]
 .exact eN
 obtain⟨i,hi⟩:=i;have f:=ZK (cB a b) n i;simp only;repeat'(first|exact trivial|apply eS rfl|apply AB|refine rX d ?_ ?_|refine rC ?_ ?_<;>intro c<;>try(cases c;done))
 .have e:i<n:=IN.1 c;exact⟨by exact eV,by exact eV,c⟩
 .exact eV
 .have e:i<n:=IN.1 c;refine⟨⟨i+1,e⟩,by simp only;omega,AC [(12,.nm 12)] rfl rfl ?_ ?_⟩
  .simp only[<-A0F];refine eM ?_;rfl
  exact eN
 have e:i=n:=by omega
 subst e;have g:(HA (cB a b) i i).take i=HA (cB a b) i i:=At (by rw[f];exact If _);refine F0 [12] ?_;repeat'(first|apply eS rfl|refine rX d ?_ ?_)
 .rw[g,f];dsimp only[Ty.den]at *;omega
 rw[g];exact fI d [.tmp 4] (by rw[j];exact eR)
def D6 (a b:List Int):Bool:=MU a b&&MU b a
def cC:AZ:={ ins:=[BG,BG],pre:=λ_=>True,out:=λ(a,b,_)=>[.p .bool (D6 a b)],lend:=true }
attribute [local go_sem] cC
theorem A0G:Af Tryz.prog 179 cC:=by
 refine fK [0,1,4] Tryz.func179 Tryz.ntmps179 (AF Wo AH) ?_;rintro w0 O0 ⟨a,b,u⟩ c - -;simp only[cC,AM];repeat'(first|exact trivial|apply eS rfl|refine rX c ?_ ?_)
 exact fI c [.tmp 4] (by unfold D6;exact eR)
def E0 (c:List Int):Nat->List F4->Int
 | _,[]=>-1
 | k,t :: l=>if D6 t.2.1 c=true then (k:Int) else E0 c (k+1) l
theorem oD (c:List Int) (l:List F4) {k:Nat} (h:k<l.length):E0 c k (l.drop k)=if D6 (l.getD k SL).2.1 c=true then (k:Int) else E0 c (k+1) (l.drop (k+1)):=by
 rw[Of h];have e:l.getD k SL=l[k]:=by simp[AS,h]
 rw[e];rfl
theorem A3x (c:List Int) (t:F4):A9 Tryz.prog 178 [.p mW t,.bp 1 [] 0] [(1,.box 140 false [.p BG c])] [1] (λres b=>res=.p .bool (D6 t.2.1 c)/\b=[(1,.box 140 false [.p BG c])]):=by
 refine KY [0,1,2,3] [] [] Tryz.func178 Tryz.ntmps178 (AF A0G AH) ?_;intro w0 K O0 ρ0 a d e;simp only[Ak];repeat'(first|exact trivial|apply eS rfl|refine rX a ?_ ?_)
 refine Ev.ent (σ':=⟨[(3,.p .bool (D6 t.2.1 c))],[(1,.box 140 false [.p BG c])]⟩) ?_ (AC [(1,.nm 1)] rfl rfl ?_ ?_)
 .exact fM a [.tmp 3] (.p .bool (D6 t.2.1 c)) eT ⟨rfl,rfl⟩
 .exact eN
 exact eN
theorem A0H (l:List F4) (c:List Int) (hl:l.length<=100000):A9 Tryz.prog 177 [.p lF l,.clo 178 [1]] [(1,.box 140 false [.p BG c])] [1] (λres g=>res=.p T3 (E0 c 0 l)/\g=[(1,.box 140 false [.p BG c])]):=by
 refine KY [0,1,4,5,7,8,9,16] [] [] Tryz.func177 Tryz.ntmps177 AH ?_;intro w0 K O0 ρ0 b i j;simp only[Ak];repeat'(first|exact trivial|apply eS rfl|refine rX b ?_ ?_)
 refine AK (ι:={k:Nat//k<=l.length/\E0 c k (l.drop k)=E0 c 0 l}) (λk=>⟨[(0,.p lF l),(1,.clo 178 [1]),(7,.p (.int .i64) (l.length:Int)),(8,.p (.int .i64) (k.1:Int))],[(1,.box 140 false [.p BG c])]⟩) (λk=>l.length-k.1) ⟨0,NO _,rfl⟩ (eW [(1,.nm 1)]) (λk=>?_)
 obtain⟨k,hk,hf⟩:=k;have f:=λh:k<l.length=>oD c l h;simp only;repeat'(first|exact trivial|apply eS rfl|refine rX b ?_ ?_|refine rC ?_ ?_<;>intro a<;>try(cases a;done))
 .have d:k<l.length:=IN.1 a;have e:=f d;refine cP 5 b ?_ ?_
  .exact a
  refine rM b (A3x c (l.getD k SL)) [(1,.nm 1)] [] ?_ ?_ ?_
  .exact eN
  .exact eN
  rintro _ _ ⟨rfl,rfl⟩;refine⟨[(1,.nm 1)],.p .bool (D6 (l.getD k SL).2.1 c),[(1,.box 140 false [.p BG c])],rfl,rfl,?_,?_,rfl,rfl,BV ?_⟩
  .exact eN
  .exact eN
  repeat'(first|exact trivial|apply eS rfl|apply AB|refine rX b ?_ ?_|refine rC ?_ ?_<;>intro a<;>try(cases a;done))
  .have a:D6 (l.getD k SL).2.1 c=true:=a;rw[BY a,hf]at e;refine Ev.ent (σ':=⟨[(4,.p (.int .i64) (k:Int))],[(1,.box 140 false [.p BG c])]⟩) ?_ (AC [(1,.nm 1)] rfl rfl ?_ ?_)
   .exact fM b [.tmp 4] (.p T3 (k:Int)) eT ⟨by rw[e],rfl⟩
   .exact eN
   exact eN
  .omega
  have a:D6 (l.getD k SL).2.1 c=false:=a;rw[As (by rw[a];simp)]at e;exact⟨⟨k+1,d,e.symm.trans hf⟩,by simp only;omega,eW [(1,.nm 1)]⟩
 have d:l.drop k=[]:=RC (RJ.1 a);rw[d]at hf;have hf:(-1:Int)=E0 c 0 l:=hf;refine Ev.ent (σ':=⟨[(4,.p (.int .i64) (-1))],[(1,.box 140 false [.p BG c])]⟩) ?_ (AC [(1,.nm 1)] rfl rfl ?_ ?_)
 .exact fM b [.tmp 4] (.p T3 (-1)) eT ⟨by rw[hf],rfl⟩
 .exact eN
 exact eN
def BQ (h:AG) (t:Int):List Int:=(h.1.getD t.toNat SL).2.1
def Ba (h:AG) (a b:Int):Int×Bool :=
 if (F5 (BQ h a) (BQ h b)).length=0 then (0,false) else if E0 (F5 (BQ h a) (BQ h b)) 0 h.1<0 then (0,false) else (E0 (F5 (BQ h a) (BQ h b)) 0 h.1,true)
def x7:AZ:={ ins:=[Dn,T3,T3],pre:=λ(h,a,b,_)=>((0:Int)<=a/\a<(List.length (h:AG).1:Int))/\((0:Int)<=b/\b<(List.length (h:AG).1:Int))/\List.length (h:AG).1<=100000/\(∀x∈(h:AG).1,x.2.1.length<=100000),out:=λ(h,a,b,_)=>[.p T3 (Ba h a b).1,.p .bool (Ba h a b).2],lend:=true }
theorem A7w:Af Tryz.prog 135 x7:=by
 refine fK [0,1,2,3,6,7,8,9,25,31] Tryz.func135 Tryz.ntmps135 (AF A7v AH) ?_;rintro w0 O0 ⟨⟨d,hf⟩,a,b,u⟩ e-⟨ha,i,hl,hx⟩;simp only[x7,AM];refine Ev.ent (σ':=⟨[(0,.p Dn (d,hf)),(1,.p T3 a),(2,.p T3 b)],[]⟩) ?_ (AC [] rfl rfl ?_ ?_)
 .repeat'(first|exact trivial|apply eS rfl|refine rX e ?_ ?_|refine rC ?_ ?_<;>intro f<;>try(cases f;done))
  .refine⟨ha,i,?_⟩;have h1:Int.toNat a<List.length d:=(AFD ha.1).2 ha.2;exact hx _ (AE (d:List F4) SL h1)
  .have k:Ba (d,hf) a b=(0,false):=by
    unfold Ba;rw[BY (by unfold BQ;exact AFw f)]
   exact fI e [.tmp 6,.tmp 7] (by rw[k];exact eR)
  have j:∀c,c=F5 (List.getD d (Int.toNat a) (ByteArray.empty,[],[],[])).2.1 (List.getD d (Int.toNat b) (ByteArray.empty,[],[],[])).2.1->c=F5 (BQ (d,hf) a) (BQ (d,hf) b):=λc h=>h;have g:Ba (d,hf) a b=if E0 (F5 (BQ (d,hf) a) (BQ (d,hf) b)) 0 d<0 then (0,false) else (E0 (F5 (BQ (d,hf) a) (BQ (d,hf) b)) 0 d,true):=by
   unfold Ba;rw[As (λh=>f (by unfold BQ at h;exact AAc Int.ofNat h))]
  generalize l:F5 (List.getD d (Int.toNat a) (ByteArray.empty,[],[],[])).2.1 (List.getD d (Int.toNat b) (ByteArray.empty,[],[],[])).2.1=c at *;rw[<-j c rfl]at g;refine cP 3 e ?_ ?_
  .trivial
  refine rM e (A0H d c hl) [(1,.nm 8)] [] ?_ ?_ ?_
  .exact eN
  .exact eN
  rintro _ _ ⟨rfl,rfl⟩;refine⟨[(8,.nm 1)],.p T3 (E0 c 0 d),[(8,.box 140 false [.p BG c])],rfl,rfl,?_,?_,rfl,rfl,?_⟩
  .exact eN
  .exact eN
  generalize E0 c 0 d=m at *;refine rL e ?_ ?_
  .trivial
  repeat'(first|exact trivial|apply eS rfl|refine rX e ?_ ?_|refine rC ?_ ?_<;>intro f<;>try(cases f;done))
  .rw[BY f]at g;exact fI e [.tmp 6,.tmp 7] (by rw[g];exact eR)
  rw[As (AE3.2 f)]at g;exact fI e [.tmp 6,.tmp 7] (by rw[g];exact eR)
 .exact eN
 exact eN
end
structure x8 (l:List (List Int)):Prop where
 wds:∀c∈l,JJ c
 some:∀c∈l,∃i,BZ c i=true
 wid:∀c∈l,c.length<=64
 meet:∀a∈l,∀b∈l,(∃i,BZ a i=true/\BZ b i=true)->∃t∈l,∀i,BZ t i=(BZ a i&&BZ b i)
structure Bs (l:List (List Int)):Prop where
 wds:∀c∈l,JJ c
 some:∀c∈l,∃i,BZ c i=true
theorem ZL {l:List (List Int)} {k:Nat} (h:¬k<l.length):l.getD k []=[]:=by
 rw[AS,RP (by omega)];rfl
theorem Bs.get {l:List (List Int)} (h:Bs l) (k:Nat):JJ (l.getD k []):=by
 by_cases hk:k<l.length
 .exact h.wds _ (Dg hk)
 rw[ZL hk];intro x hx;cases hx
theorem A7x {l:List (List Int)} (h:Bs l) (i k:Nat):Bs (HL l i k):=by
 unfold HL;split
 .rename_i b;rw[An,Do]at b;refine⟨λc a=>?_,λc a=>?_⟩
  .rcases Is.1 a with a|a
   .exact h.wds c a
   have:c=GJ (l.getD i []) (l.getD k []):=by simpa using a
   rw[this];exact b7 (h.get i) (h.get k)
  rcases Is.1 a with a|a
  .exact h.some c a
  have:c=GJ (l.getD i []) (l.getD k []):=by simpa using a
  rw[this];have f:GJ (l.getD i []) (l.getD k [])≠[]:=by
   intro e;rw[e]at b;exact absurd b.1 (by simp)
  have g:JJ (Gb .and (l.getD i []) (l.getD k []) (l.getD i []).length):=by
   intro x hx;unfold Gb at hx;obtain⟨j,-,rfl⟩:=GO.1 hx;rw[Hq,IP (BC (h.get i) _) (BC (h.get k) _)];have h1:=BC (h.get i) j;have m:((l.getD i []).getD j 0).toNat &&& ((l.getD k []).getD j 0).toNat<=((l.getD i []).getD j 0).toNat:=AF9;have n:=h1.1;have o:=h1.2;exact⟨ADD _,by omega⟩
  obtain⟨j,d⟩:=nZ g f;exact⟨j,by unfold GJ;rw[Ow];exact d⟩
 exact h
theorem x9 {i:Nat}:∀ {n k:Nat} {l:List (List Int)},Bs l->Bs (HN i n k l)
 | 0,_,_,h=>h
 | n+1,k,l,h=>by
  unfold HN;split
  .exact x9 (A7x h i k)
  exact h
theorem yA:∀ {n i:Nat} {l:List (List Int)},Bs l->Bs (Jg n i l)
 | 0,_,_,h=>h
 | n+1,i,l,h=>by
  unfold Jg;split
  .exact yA (x9 h)
  exact h
theorem A0I {d:List AJ} (f:BS d=0):Bs (Ah d):=by
 obtain⟨-,k,-⟩:=BB f;have h:=FL d d.length;rw[RD]at h;have b:(AW d).length<=4096:=by omega
 refine⟨λc a=>?_,λc a=>?_⟩
 .unfold Ah at a;obtain⟨s,-,rfl⟩:=GO.1 a;exact(Em (d:=d) b s 0).2.1
 unfold Ah at a;obtain⟨s,hs,rfl⟩:=GO.1 a;obtain⟨j,g,e⟩:=Cu ByteArray.empty hs;have i:0<=BH d s:=by
  obtain⟨x,hx,e⟩:=Gd hs;rw[<-e];exact FO hx
 exact⟨j,(Em (d:=d) b s j).1.2 ⟨g,by rw[e];exact PJ i⟩⟩
theorem oE {d:List AJ} (l:BS d=0) (hl:(A6 (Ah d)).length<=256):x8 (A6 (Ah d)):=by
 obtain⟨-,o,-⟩:=BB l;have g:Bs (A6 (Ah d)):=yA (A0I l);have n:=b6 hl;refine⟨g.wds,g.some,Qf (PM o),λa ha b r hi=>?_⟩;obtain⟨q,f,rfl⟩:=Cu [] ha;obtain⟨p,hp,rfl⟩:=Cu [] r;have key:∀q p,q<(A6 (Ah d)).length->p<(A6 (Ah d)).length->La (A6 (Ah d)) q p->(∃i,BZ ((A6 (Ah d)).getD q []) i=true/\BZ ((A6 (Ah d)).getD p []) i=true) ->
   ∃t∈A6 (Ah d),∀i,BZ t i=(BZ ((A6 (Ah d)).getD q []) i&&BZ ((A6 (Ah d)).getD p []) i):=by
  intro q p f hp c hi;have m:=Um (g.get q) (g.get p);rcases c with c|c
  .obtain⟨i,j,k⟩:=hi;have:=m i;rw[c,j,k]at this;unfold BZ at this;simp at this
  exact⟨_,c,m⟩
 rcases AEZ p q with h|h|h
 .exact key q p f hp (n q p h f) hi
 .subst h;exact⟨_,Dg f,λi=>by rw[Bool.and_self]⟩
 obtain⟨t,s,e⟩:=key p q hp f (n p q h hp) (by obtain⟨i,j,k⟩:=hi;exact⟨i,k,j⟩);exact⟨t,s,λi=>by rw[e i,Bool.and_comm]⟩
def HX (h:AG):Prop:=x8 (h.1.map λt=>t.2.1)/\h.1.length<=256
theorem MV (d:List AJ):HX (A1 d).1:=by
 unfold A1;split
 .exact⟨⟨λc h=>(by cases h),λc h=>(by cases h),λc h=>(by cases h),λc h=>(by cases h)⟩,by simp⟩
 rename_i g;have g:(BX d).2=0:=FT g;have m:BW d=0:=by
  unfold BX at g;split at g
  .rename_i h;exact absurd g h
  rename_i h;exact FT h
 obtain⟨o,-,-⟩:=Cg m;obtain⟨l,k,-⟩:=Bq o;have hf:=oE l k;have f:∀c,c∈((G9 d).1.map λt=>t.2.1)↔c∈A6 (Ah d):=by
  intro c;have e:((G9 d).1.map λt=>t.2.1)=(A2 d).map λx=>x.2:=by
   show ((FH _ _ _).map λt=>t.2.1)=_;unfold FH;rw[nO];apply iS
   .simp
   intro i h1 p;simp[AS,show i<(A2 d).length by simpa using h1]
  rw[e];constructor
  .intro h;obtain⟨x,hx,rfl⟩:=GO.1 h;obtain⟨b,j,rfl⟩:=D5.1 hx;exact j
  intro h;exact GO.2 ⟨_,D5.2 ⟨c,h,rfl⟩,rfl⟩
 refine⟨⟨λc h=>hf.wds c ((f c).1 h),λc h=>hf.some c ((f c).1 h),λc h=>hf.wid c ((f c).1 h),λa ha b j hi=>?_⟩,?_⟩
 .obtain⟨t,n,e⟩:=hf.meet a ((f a).1 ha) b ((f b).1 j) hi;exact⟨t,(f t).2 n,e⟩
 show (FH _ _ _).length<=256;rw[NS,IT];exact k
theorem Br {h:AG} {t:Int} (a:0<=t) (b:t<(h.1.length:Int)):BQ h t∈h.1.map λt=>t.2.1 :=
 GO.2 ⟨_,AE h.1 SL (k:=t.toNat) (by omega),rfl⟩
theorem Wr {a b:List Int} (ha:JJ a) (c:JJ b):MU a b=true↔∀i,BZ a i=true->BZ b i=true:=by
 constructor
 .intro h i hi;by_cases hk:i / 64<a.length
  .have h1:=ON.1 h (i / 64) (RY.2 hk);rw[S1,Hq]at h1;exact Tg (BC ha _) (BC c _) h1 (AFF _ (by decide)) hi
  exfalso;unfold BZ at hi;rw[G8 hk]at hi;simp at hi
 intro h;unfold MU;rw[ON];intro k _;rw[S1,Hq];exact ZG ha c h k
theorem A3y {a b:List Int} (ha:JJ a) (c:JJ b) (i:Nat):BZ (F5 a b) i=(BZ a i&&BZ b i):=by
 unfold F5;rw[Ow];unfold BZ;have:(HA (cB a b) (min a.length b.length) (min a.length b.length)).getD (i / 64) 0=B6 .and .u64 (a.getD (i / 64) 0) (b.getD (i / 64) 0):=by
  by_cases h:i / 64<min a.length b.length
  .unfold HA;rw[AS,gO,AE8 h];show (if i / 64<min a.length b.length then cB a b (i / 64) else 0)=_;rw[BY h];rfl
  rw[G8 (by rw[ZK];exact h),IP (BC ha _) (BC c _)];by_cases h1:i / 64<a.length
  .rw[G8 (b:=b) (by omega)];simp
  rw[G8 (b:=a) h1];simp
 rw[this,IP (BC ha _) (BC c _),RK,Nat.testBit_and]
theorem A3z {a b:List Int} (ha:JJ a) (c:JJ b):JJ (F5 a b):=by
 refine Ox λx hx=>?_;unfold HA at hx;obtain⟨j,-,rfl⟩:=GO.1 hx;split
 .unfold cB;rw[IP (BC ha _) (BC c _)];have h1:=BC ha j;have d:(a.getD j 0).toNat &&& (b.getD j 0).toNat<=(a.getD j 0).toNat:=AF9;have e:=h1.1;have f:=h1.2;exact⟨ADD _,by omega⟩
 exact⟨by decide,by decide⟩
theorem Ws (c:List Int):∀(l:List F4) (k:Nat),(E0 c k l=-1/\∀t∈l,D6 t.2.1 c=false)\/((k:Int)<=E0 c k l/\E0 c k l<(k:Int)+l.length/\D6 (l.getD ((E0 c k l).toNat-k) SL).2.1 c=true)
 | [],k=>.inl ⟨rfl,λt a=>by cases a⟩
 | x :: l,k=>by
  simp only[E0];split
  .rename_i h;right;refine⟨by omega,by simp only[No];omega,?_⟩;rw[show ((k:Int).toNat-k)=0 by omega];exact h
  rename_i h;have h:D6 x.2.1 c=false:=by simpa using h
  rcases Ws c l (k+1) with ⟨h1,b⟩|⟨h1,b,d⟩
  .left;refine⟨h1,λt a=>?_⟩;rcases DO.1 a with rfl|a
   .exact h
   exact b t a
  right;refine⟨by omega,by simp only[No];omega,?_⟩;rw[show ((E0 c (k+1) l).toNat-k)=((E0 c (k+1) l).toNat-(k+1))+1 by omega];exact d
def yB (h:AG) (t:Int) (i:Nat):Bool:=BZ (BQ h t) i
theorem Be {h:AG} (hk:HX h) {a b:Int} (c:0<=a) (d:a<(h.1.length:Int)) (e:0<=b) (b1:b<(h.1.length:Int)):Av h a b=true↔∀i,yB h b i=true->yB h a i=true :=
 Wr (hk.1.wds _ (Br e b1)) (hk.1.wds _ (Br c d))
theorem A3A {h:AG} (hk:HX h) {a b:Int} (g:0<=a) (j:a<(h.1.length:Int)) (l:0<=b) (b1:b<(h.1.length:Int)) :
  ((Ba h a b).2=true->0<=(Ba h a b).1/\(Ba h a b).1<(h.1.length:Int)/\∀i,yB h (Ba h a b).1 i=(yB h a i&&yB h b i))/\((∃i,yB h a i=true/\yB h b i=true)->(Ba h a b).2=true):=by
 have r:=hk.1.wds _ (Br g j);have s:=hk.1.wds _ (Br l b1);have c:=A3y r s;have o:=A3z r s;have heq:∀t∈h.1,D6 t.2.1 (F5 (BQ h a) (BQ h b))=true↔∀i,BZ t.2.1 i=BZ (F5 (BQ h a) (BQ h b)) i:=by
  intro t d;have wt:=hk.1.wds t.2.1 (GO.2 ⟨t,d,rfl⟩);unfold D6;rw[An,Wr wt o,Wr o wt];constructor
  .rintro⟨e1,e2⟩ i;rw[AEN];exact⟨e1 i,e2 i⟩
  intro e;exact⟨λi hi=>by rw[<-e i];exact hi,λi hi=>by rw[e i];exact hi⟩
 unfold Ba;by_cases f:(F5 (BQ h a) (BQ h b)).length=0
 .rw[BY f];refine⟨λe=>(by cases e),?_⟩;rintro⟨i,p,q⟩;exfalso;have:=c i;rw[RQ f]at this;unfold yB at p q;rw[p,q]at this;unfold BZ at this;simp at this
 rw[As f];rcases Ws (F5 (BQ h a) (BQ h b)) h.1 0 with ⟨h1,m⟩|⟨h1,m,n⟩
 .rw[BY (by omega)];refine⟨λe=>(by cases e),λhi=>?_⟩;exfalso;obtain⟨t,d,e⟩:=hk.1.meet _ (Br g j) _ (Br l b1) hi;obtain⟨x,hx,rfl⟩:=GO.1 d;have:=(heq x hx).2 (λi=>by rw[c i];exact e i);rw[m x hx]at this;cases this
 have h1:0<=E0 (F5 (BQ h a) (BQ h b)) 0 h.1:=by omega
 rw[As (by omega)];refine⟨λ_=>⟨h1,by simp only;omega,λi=>?_⟩,λ_=>rfl⟩;rw[Nat.sub_zero]at n;have u:=AE h.1 SL (k:=(E0 (F5 (BQ h a) (BQ h b)) 0 h.1).toNat) (by omega);have:=(heq _ u).1 n i;rw[c i]at this;exact this
theorem IU {h:AG} (hk:HX h) {a b:Int} (l:0<=a) (m:a<(h.1.length:Int)) (n:0<=b) (b1:b<(h.1.length:Int)) :
  ((Ba h a b).2=true->0<=(Ba h a b).1/\(Ba h a b).1<(h.1.length:Int)/\Av h a (Ba h a b).1=true/\Av h b (Ba h a b).1=true) /\
  ∀x,0<=x->x<(h.1.length:Int)->Av h a x=true->Av h b x=true->(Ba h a b).2=true/\Av h (Ba h a b).1 x=true:=by
 obtain⟨r,u⟩:=A3A hk l m n b1;refine⟨λe=>?_,λx g k s t=>?_⟩
 .obtain⟨c,d,f⟩:=r e;refine⟨c,d,(Be hk l m c d).2 λi hi=>?_,(Be hk n b1 c d).2 λi hi=>?_⟩
  .rw[f i,An]at hi;exact hi.1
  rw[f i,An]at hi;exact hi.2
 have o:=(Be hk l m g k).1 s;have p:=(Be hk n b1 g k).1 t;obtain⟨i,hi⟩:=hk.1.some _ (Br g k);have e:=u ⟨i,o i hi,p i hi⟩;obtain⟨c,d,f⟩:=r e;refine⟨e,(Be hk c d g k).2 λj q=>?_⟩;rw[f j,An];exact⟨o j q,p j q⟩
abbrev AD9:=Int×List (Int×Int)
def HO (f:List AD9):Bool:=decide (f.length<=12)&&f.all λn=>decide (n.2.length<=12)
def SM:AZ:={ ins:=[DE],pre:=λ_=>True,out:=λ(f,_)=>[.p .bool (HO f)] }
theorem A3B:Af Tryz.prog 18 SM:=by
 refine fK [0,1,2,3,7,12,22] Tryz.func18 Tryz.ntmps18 AH ?_;rintro w0 O0 ⟨l,u⟩ a e f;simp only[SM,AM];repeat'(first|exact trivial|apply eS rfl|refine rX a ?_ ?_|refine rC ?_ ?_<;>intro b<;>try(cases b;done))
 .have h1:HO l=false:=by
   have h:¬(List.length l<=12):=by exact eV
   unfold HO;rw[AEK h];rfl
  exact fI a [.tmp 2] (by rw[h1];exact eR)
 refine AK (ι:={k:Nat//k<=l.length/\(l.take k).all (λn=>decide (n.2.length<=12))=true}) (λk=>⟨[(0,.p DE l),(1,.bp 1 [] 0),(3,.p (.int .i64) (k.1:Int))],[(1,.box 25 true [.p G2 l])]⟩) (λk=>l.length-k.1) ⟨0,by simp⟩ (AC [(1,.nm 1)] rfl rfl ?_ ?_) (λk=>?_)
 .exact eN
 .exact eN
 obtain⟨k,hk,c⟩:=k;repeat'(first|exact trivial|apply eS rfl|apply AB|refine rX a ?_ ?_|refine rC ?_ ?_<;>intro b<;>try(cases b;done))
 .exact eV
 .have h1:HO l=false:=by
   have hk:k<l.length:=by exact eV
   have h:=AE l (0,[]) hk;unfold HO;rw[AAH];right;rw[AEA];exact⟨_,h,by simp only[Do];exact eV⟩
  exact fI a [.tmp 2] (by rw[h1];exact eR)
 .exact eV
 .have hk:k<l.length:=by exact eV
  refine⟨⟨k+1,by exact eV,?_⟩,by simp only;exact eV,AC [(1,.nm 1)] rfl rfl ?_ ?_⟩
  .have h1:=Au l (0,[]) hk;have d:((l.take (k+1)).all λn=>decide (n.2.length<=12))=_:=AAc (λx=>List.all x λn=>decide (n.2.length<=12)) h1;rw[d,AEB,c];simp only[ADS,List.all_nil,Bool.and_true,AF8,Do];exact eV
  .exact eN
  exact eN
 have h1:HO l=true:=by
  have hk:l.take k=l:=At (by exact eV);rw[hk]at c;unfold HO;rw[c,AEF (by exact eV)];rfl
 exact fI a [.tmp 2] (by rw[h1];exact eR)
def F6 (n:Int) (seen:List (Int×Int)):List (Int×Int)->Int
 | []=>0
 | x :: r=>if x.1<0\/x.2<0\/n<=x.2 then 2 else if (seen.any λy=>y.1==x.1)=true then 4 else F6 n (seen++[x]) r
def GP (l:List (Int×Int)) (n:Int):Int:=F6 n [] l
def iL:AZ:={ ins:=[Cm,T3],pre:=λ_=>True,out:=λ(l,n,_)=>[.p GI (GP l n)] }
theorem PP (n:Int) (l:List (Int×Int)) {k:Nat} (h:k<l.length):F6 n (l.take k) (l.drop k)=if (l.getD k (0,0)).1<0\/(l.getD k (0,0)).2<0\/n<=(l.getD k (0,0)).2 then 2 else if ((l.take k).any λy=>y.1==(l.getD k (0,0)).1)=true then 4 else F6 n (l.take (k+1)) (l.drop (k+1)):=by
 rw[Au l (0,0) h,Of h,AS,AT h];rfl
theorem YL (l:List (Int×Int)) (f:Int) {k:Nat} (h:k<l.length):((l.take (k+1)).any λy=>y.1==f)=((l.take k).any (λy=>y.1==f)||((l.getD k (0,0)).1==f)):=by
 rw[Au l (0,0) h,AEM];simp
theorem A7y:Af Tryz.prog 174 iL:=by
 refine fK [0,1,4,5,6,10,35,38,51] Tryz.func174 Tryz.ntmps174 AH ?_;rintro w0 O0 ⟨l,n,u⟩ b ⟨⟨hl,-⟩,-⟩ -;simp only[AO]at hl;simp only[iL,AM];repeat'(first|exact trivial|apply eS rfl|refine rX b ?_ ?_)
 refine AK (ι:={k:Nat//k<=l.length/\F6 n (l.take k) (l.drop k)=GP l n}) (λk=>⟨[(0,.p Cm l),(1,.p T3 n),(5,.p (.int .i64) (k.1:Int))],[]⟩) (λk=>l.length-k.1) ⟨0,by simp[GP]⟩ (AC [] rfl rfl ?_ ?_) (λk=>?_)
 .exact eN
 .exact eN
 obtain⟨k,hk,c⟩:=k;repeat'(first|exact trivial|apply eS rfl|refine rX b ?_ ?_|refine rC ?_ ?_<;>intro a<;>try(cases a;done))
 .exact eV
 .have hk:k<l.length:=by exact eV
  have h1:GP l n=2:=by
   rw[<-c,PP n l hk,BY (by rw[<-or_assoc];exact a)]
  exact fI b [.tmp 4] (by rw[h1];exact eR)
 .have hk:k<l.length:=by exact eV
  have hn:¬((l.getD k (0,0)).1<0\/(l.getD k (0,0)).2<0\/n<=(l.getD k (0,0)).2):=by
   have:=a;generalize l.getD k (0,0)=x at this;exact eV
  rw[PP n l hk,As hn]at c;refine AK (ι:={j:Nat//j<=k/\((l.take j).any λy=>y.1==(l.getD k (0,0)).1)=false}) (λj=>⟨[(0,.p Cm l),(1,.p T3 n),(5,.p (.int .i64) (k:Int)),(6,.p (.int .i64) (j.1:Int))],[]⟩) (λj=>k-j.1) ⟨0,by simp⟩ (AC [] rfl rfl ?_ ?_) (λj=>?_)
  .exact eN
  .exact eN
  obtain⟨j,h,f⟩:=j;repeat'(first|exact trivial|apply eS rfl|apply AB|refine rX b ?_ ?_|refine rC ?_ ?_<;>intro a<;>try(cases a;done))
  .exact eV
  .have e:j<l.length:=by exact eV
   have h1:GP l n=4:=by
    have d:((l.take k).any λy=>y.1==(l.getD k (0,0)).1)=true:=by
     rw[RT];refine⟨l.getD j (0,0),?_,by simpa using a⟩;rw[AS,AT e];exact AEv.2 ⟨j,by exact eV,rfl⟩
    rw[<-c,BY d]
   exact fI b [.tmp 4] (by rw[h1];exact eR)
  .exact eV
  .have e:j<l.length:=by exact eV
   refine⟨⟨j+1,by exact eV,?_⟩,by simp only;exact eV,AC [] rfl rfl ?_ ?_⟩
   .have d:=YL l (l.getD k (0,0)).1 e;refine d.trans ?_;rw[f];simpa using a
   .exact eN
   exact eN
  .exact eV
  have g:j=k:=by exact eV
  subst g;refine⟨⟨j+1,by exact eV,?_⟩,by simp only;exact eV,AC [] rfl rfl ?_ ?_⟩
  .rw[<-c,As (by rw[f];simp)]
  .exact eN
  exact eN
 have h1:GP l n=0:=by
  have hk:l.length<=k:=by exact eV
  rw[<-c,RC hk];rfl
 exact fI b [.tmp 4] (by rw[h1];exact eR)
def Wu (n:Int×List (Int×Int)):List Int:=n.1 :: (n.2.length:Int) :: n.2.flatMap λa=>[a.1,a.2]
def Bt (f:List (Int×List (Int×Int))):List Int:=(f.length:Int) :: f.flatMap Wu
def YM (l:List (Int×List (Int×Int))) (k:Nat):List Int:=(l.length:Int) :: (l.take k).flatMap Wu
def Wv (l:List (Int×List (Int×Int))) (k j:Nat):List Int:=YM l k++[(l.getD k (0,[])).1,((l.getD k (0,[])).2.length:Int)]++((l.getD k (0,[])).2.take j).flatMap λa=>[a.1,a.2]
theorem SP:∀l:List (Int×Int),(l.flatMap λa=>[a.1,a.2]).length=2*l.length
 | []=>rfl
 | x :: l=>by simp[SP l];omega
theorem A3C (n:Int×List (Int×Int)):(Wu n).length=2+2*n.2.length:=by
 have:=SP n.2;simp only[Wu,No];omega
theorem Ww:∀l:List (Int×List (Int×Int)),(∀n∈l,n.2.length<=100000)->(l.flatMap Wu).length<=l.length*200002
 | [],_=>by simp
 | x :: l,h=>by
  have h1:=h x (by simp);have a:=Ww l (λn hn=>h n (by simp[hn]));have b:=A3C x;simp only[AEP,By,No];omega
theorem iM {l:List (Int×List (Int×Int))} (h:∀n∈l,n.2.length<=100000) {k:Nat} (hk:k<=l.length):(YM l k).length<=1+k*200002:=by
 have h1:=Ww (l.take k) (λn hn=>h n (S4 hn));rw[OS,AEd hk]at h1;simp only[YM,No];omega
theorem A3D {l:List (Int×List (Int×Int))} (h:∀n∈l,n.2.length<=100000) {k j:Nat} (hk:k<l.length) (b:j<=(l.getD k (0,[])).2.length):(Wv l k j).length<=3+k*200002+2*j:=by
 have h1:=iM h (AFe hk);have a:=SP ((l.getD k (0,[])).2.take j);rw[OS,AEd b]at a;simp only[Wv,By,No,AAg];omega
theorem ZM {l:List (Int×List (Int×Int))} {k:Nat} (hk:k<l.length):YM l (k+1)=Wv l k (l.getD k (0,[])).2.length:=by
 unfold YM Wv;rw[Au l (0,[]) hk,List.flatMap_append,RD];simp[Wu,YM]
theorem ZN {l:List (Int×List (Int×Int))} {k j:Nat} (a:j<(l.getD k (0,[])).2.length):Wv l k (j+1)=Wv l k j++[((l.getD k (0,[])).2.getD j (0,0)).1,((l.getD k (0,[])).2.getD j (0,0)).2]:=by
 unfold Wv;rw[Au _ (0,0) a,List.flatMap_append];simp
def Wx:AZ:={ ins:=[DE],pre:=λ(f,_)=>f.length<=100000/\∀n∈f,n.2.length<=100000,out:=λ(f,_)=>[.p F1 (Bt f)] }
theorem oG:Af Tryz.prog 130 Wx:=by
 refine fK [0,1,2,3,4,5,6,15,38] Tryz.func130 Tryz.ntmps130 AH ?_;rintro w0 O0 ⟨l,u⟩ a ⟨hl,-⟩ ⟨m,d⟩;simp only[Wx,AM];repeat'(first|exact trivial|apply eS rfl|refine rX a ?_ ?_)
 refine AK (ι:={k:Nat//k<=l.length}) (λk=>⟨[(0,.p DE l),(1,.bp 1 [] 0),(3,.sr 10 T3 0 (YM l k.1).length),(4,.p (.int .i64) (k.1:Int))],[(1,.box 25 true [.p G2 l]),(10,.arr 3 T3 (YM l k.1))]⟩) (λk=>l.length-k.1) ⟨0,by simp⟩ (AC [(1,.nm 1),(10,.nm 10)] rfl rfl ?_ ?_) (λk=>?_)
 .refine eM ?_;rfl
 .refine eM ?_;rfl
 obtain⟨k,hk⟩:=k;have h:=iM d hk;repeat'(first|exact trivial|apply eS rfl|refine rX a ?_ ?_|refine rC ?_ ?_<;>intro c<;>try(cases c;done))
 .exact eV
 .refine⟨by exact eV,?_⟩;simp only[AO];exact eV
 .have b:k<l.length:=by exact eV
  have n:=d _ (AE l (0,[]) b);refine AK (ι:={j:Nat//j<=(l.getD k (0,[])).2.length}) (λj=>⟨[(0,.p DE l),(1,.bp 1 [] 0),(3,.sr 10 T3 0 (Wv l k j.1).length),(4,.p (.int .i64) (k:Int)),(5,.p Cm (l.getD k (0,[])).2),(6,.p (.int .i64) (j.1:Int))],[(1,.box 25 true [.p G2 l]),(10,.arr 3 T3 (Wv l k j.1))]⟩) (λj=>(l.getD k (0,[])).2.length-j.1) ⟨0,by simp⟩ (AC [(1,.nm 1),(10,.nm 10)] rfl rfl ?_ ?_) (λj=>?_)
  .refine eM ?_;simp[Wv]
  .refine eM ?_;simp[Wv]
  obtain⟨j,f⟩:=j;have i:=A3D d b f;repeat'(first|exact trivial|apply eS rfl|apply AB|refine rX a ?_ ?_|refine rC ?_ ?_<;>intro c<;>try(cases c;done))
  .refine⟨by exact eV,by exact eV,?_⟩;simp only[AO];exact eV
  .exact eV
  .have e:j<(l.getD k (0,[])).2.length:=by exact eV
   refine⟨⟨j+1,by exact eV⟩,by simp only;exact eV,AC [(1,.nm 1),(10,.nm 10)] rfl rfl ?_ ?_⟩
   .refine eM ?_;exact(ZN e).symm
   refine eM ?_;have:=AAc List.length (ZN (l:=l) e);rw[By]at this;exact this.symm
  .exact eV
  have g:j=(l.getD k (0,[])).2.length:=by exact eV
  subst g;refine⟨⟨k+1,by exact eV⟩,by simp only;exact eV,AC [(1,.nm 1),(10,.nm 10)] rfl rfl ?_ ?_⟩
  .refine eM ?_;exact(ZM b).symm
  refine eM ?_;exact AAc List.length (ZM b).symm
 have hk:l.take k=l:=At (by exact eV);have h1:YM l k=Bt l:=by unfold YM Bt;rw[hk]
 exact fI a [.tmp 2] (by first|exact eR|refine Yw ?_;exact h1)
section
attribute [local go_sem] Wx
def LE:List Int->List Int->Int
 | x :: xs,y :: ys=>if x<y then -1 else if y<x then 1 else LE xs ys
 | _,_=>0
theorem SQ (xs ys:List Int) {k:Nat} (h1:k<xs.length) (a:k<ys.length):LE (xs.drop k) (ys.drop k)=if xs.getD k 0<ys.getD k 0 then -1 else if ys.getD k 0<xs.getD k 0 then 1 else LE (xs.drop (k+1)) (ys.drop (k+1)):=by
 rw[Of h1,Of a,AS,AT h1,AS,AT a];rfl
theorem A3E (xs ys:List Int) {k:Nat} (h:xs.length<=k\/ys.length<=k):LE (xs.drop k) (ys.drop k)=0:=by
 rcases h with h|h
 .rw[RC h];simp[LE]
 rw[RC h];simp[LE]
def CQ (a b:List (Int×List (Int×Int))):Int:=LE (Bt a) (Bt b)
def EV (f:List (Int×List (Int×Int))):Prop:=f.length<=100000/\∀n∈f,n.2.length<=100000
def Wy:AZ:={ ins:=[DE,DE],pre:=λ(a,b,_)=>EV a/\EV b,out:=λ(a,b,_)=>[.p T3 (CQ a b)] }
theorem Qj {f:List (Int×List (Int×Int))} (h:EV f):(Bt f).length<=1+f.length*200002:=by
 have:=Ww f h.2;simp only[Bt,No];omega
theorem oH:Af Tryz.prog 78 Wy:=by
 refine fK [0,1,2,3,4,5,6,7,21,32,41] Tryz.func78 Tryz.ntmps78 (AF oG AH) ?_;rintro w0 O0 ⟨a,b,u⟩ e-⟨⟨g,i⟩,⟨j,l⟩⟩;have m:=Qj ⟨g,i⟩;have n:=Qj ⟨j,l⟩;simp only[Wy,AM];repeat'(first|exact trivial|apply eS rfl|refine rX e ?_ ?_)
 .exact⟨g,i⟩
 .exact⟨j,l⟩
 refine AK (ι:={k:Nat//LE ((Bt a).drop k) ((Bt b).drop k)=CQ a b}) (λk=>⟨[(5,.p F1 (Bt a)),(6,.p F1 (Bt b)),(7,.p (.int .i64) (k.1:Int))],[]⟩) (λk=>(Bt a).length-k.1) ⟨0,by simp[CQ]⟩ (AC [] rfl rfl ?_ ?_) (λk=>?_)
 .exact eN
 .exact eN
 obtain⟨k,hk⟩:=k;repeat'(first|exact trivial|apply eS rfl|apply AB|refine rX e ?_ ?_|refine rC ?_ ?_<;>intro f<;>try(cases f;done))
 .exact eV
 .obtain⟨h1,c⟩:k<(Bt a).length/\k<(Bt b).length:=by exact eV
  have d:CQ a b=-1:=by rw[<-hk,SQ _ _ h1 c,BY f]
  exact fI e [.tmp 4] (by rw[d];exact eR)
 .exact eV
 .obtain⟨h1,c⟩:k<(Bt a).length/\k<(Bt b).length:=by exact eV
  have d:CQ a b=1:=by rw[<-hk,SQ _ _ h1 c,As (by exact eV),BY f]
  exact fI e [.tmp 4] (by rw[d];exact eR)
 .exact eV
 .obtain⟨h1,c⟩:k<(Bt a).length/\k<(Bt b).length:=by exact eV
  refine⟨⟨k+1,?_⟩,by simp only;exact eV,AC [] rfl rfl ?_ ?_⟩
  .rw[<-hk,SQ _ _ h1 c,As (by exact eV),As (by exact eV)]
  .exact eN
  exact eN
 have d:CQ a b=0:=by
  rw[<-hk];apply A3E;by_cases h:k<(Bt a).length
  .right;have:=f (by exact eV);exact eV
  left;exact eV
 exact fI e [.tmp 4] (by rw[d];exact eR)
def IV:AZ:={ ins:=[DE,DE],pre:=λ(a,b,_)=>EV a/\EV b,out:=λ(a,b,_)=>[.p .bool (CQ a b==0)] }
end
section
attribute [local go_sem] Wy iL
theorem Qk:Af Tryz.prog 25 IV:=by
 refine fK [0,1,2,3,4] Tryz.func25 Tryz.ntmps25 (AF oH AH) ?_;rintro w0 O0 ⟨a,b,u⟩ c-d;simp only[IV,AM];repeat'(first|exact trivial|apply eS rfl|refine rX c ?_ ?_)
 .exact d
 exact fI c [.tmp 4]
def GQ (m:Int):List (Int×List (Int×Int))->Int
 | []=>0
 | n :: r=>if n.1<0 then 2 else if GP n.2 m≠0 then GP n.2 m else GQ m r
def CE (f:List (Int×List (Int×Int))):Int:=if f.length=0 then 1 else if 4096<f.length then 7 else GQ f.length f
def A3F:AZ:={ ins:=[DE],pre:=λ_=>True,out:=λ(f,_)=>[.p GI (CE f)] }
theorem IW (m:Int) (l:List (Int×List (Int×Int))) {k:Nat} (h:k<l.length):GQ m (l.drop k)=if (l.getD k (0,[])).1<0 then 2 else if GP (l.getD k (0,[])).2 m≠0 then GP (l.getD k (0,[])).2 m else GQ m (l.drop (k+1)):=by
 rw[Of h,AS,AT h];rfl
theorem A7z:Af Tryz.prog 132 A3F:=by
 refine fK [0,1,2,3,4,8,12,17,26,38] Tryz.func132 Tryz.ntmps132 (AF A7y AH) ?_;rintro w0 O0 ⟨l,u⟩ a ⟨hl,-⟩ -;simp only[A3F,AM];repeat'(first|exact trivial|apply eS rfl|refine rX a ?_ ?_|refine rC ?_ ?_<;>intro b<;>try(cases b;done))
 .have h1:CE l=1:=by
   have h:l.length=0:=by exact eV
   unfold CE;rw[BY h]
  exact fI a [.tmp 2] (by rw[h1];exact eR)
 .have h1:CE l=7:=by
   have h:¬l.length=0:=by exact eV
   have e:4096<l.length:=by exact eV
   unfold CE;rw[As h,BY e]
  exact fI a [.tmp 2] (by rw[h1];exact eR)
 have h1:CE l=GQ l.length l:=by
  have h:¬l.length=0:=by exact eV
  have e:¬4096<l.length:=by exact eV
  unfold CE;rw[As h,As e]
 refine AK (ι:={k:Nat//k<=l.length/\GQ l.length (l.drop k)=CE l}) (λk=>⟨[(1,.bp 1 [] 0),(3,.p (.int .i64) (k.1:Int))],[(1,.box 25 true [.p G2 l])]⟩) (λk=>l.length-k.1) ⟨0,by simp[h1]⟩ (AC [(1,.nm 1)] rfl rfl ?_ ?_) (λk=>?_)
 .exact eN
 .exact eN
 obtain⟨k,hk,hf⟩:=k;repeat'(first|exact trivial|apply eS rfl|apply AB|refine rX a ?_ ?_|refine rC ?_ ?_<;>intro b<;>try(cases b;done))
 .exact eV
 .have d:k<l.length:=by exact eV
  have c:CE l=2:=by rw[<-hf,IW _ _ d,BY b]
  exact fI a [.tmp 2] (by rw[c];exact eR)
 .exact eV
 .have d:k<l.length:=by exact eV
  have c:CE l=GP (l.getD k (0,[])).2 l.length:=by rw[<-hf,IW _ _ d,As (by exact eV),BY b]
  exact fI a [.tmp 2] (by rw[c];exact eR)
 .exact eV
 .have d:k<l.length:=by exact eV
  refine⟨⟨k+1,by exact eV,?_⟩,by simp only;exact eV,AC [(1,.nm 1)] rfl rfl ?_ ?_⟩
  .rw[<-hf,IW _ _ d,As (by exact eV),As (by simpa using b)]
  .exact eN
  exact eN
 have c:CE l=0:=by
  have hk:l.length<=k:=by exact eV
  rw[<-hf,RC hk];rfl
 exact fI a [.tmp 2] (by rw[c];exact eR)
end
def IX (x:Int×Int) (s:List (Int×Int)):Nat->Nat
 | 0=>0
 | n+1=>if x.1<(s.getD n (0,0)).1 then IX x s n else n+1
def PQ (s:List (Int×Int)) (x:Int×Int):List (Int×Int):=s.take (IX x s s.length)++[x]++s.drop (IX x s s.length)
def Ab (l:List (Int×Int)):List (Int×Int):=l.foldl PQ []
theorem Uo (x:Int×Int) (s:List (Int×Int)):∀n,IX x s n<=n
 | 0=>If _
 | n+1=>by
  unfold IX;have:=Uo x s n;split<;>omega
theorem A3G (s:List (Int×Int)) (x:Int×Int):(PQ s x).length=s.length+1:=by
 have:=Uo x s s.length;simp[PQ];omega
theorem He (l:List (Int×Int)) (x:Int×Int):Ab (l++[x])=PQ (Ab l) x:=by simp[Ab]
theorem MW:∀(l s:List (Int×Int)),(l.foldl PQ s).length=s.length+l.length
 | [],s=>by simp
 | x :: l,s=>by simp[MW l,A3G];omega
theorem Ci (l:List (Int×Int)):(Ab l).length=l.length:=by simp[Ab,MW]
def Ql:AZ:={ ins:=[Cm],pre:=λ(l,_)=>l.length<=1000000,out:=λ(l,_)=>[.own 106 AU (Ab l)] }
theorem ZO:Af Tryz.prog 152 Ql:=by
 refine fK [0,2,3,4,5,6,10,30] Tryz.func152 Tryz.ntmps152 AH ?_;rintro w0 O0 ⟨l,u⟩ c n i;simp only[Ql]at i;simp only[Ql,AM];repeat'(first|exact trivial|apply eS rfl|refine rX c ?_ ?_)
 refine AK (ι:={p:Nat//p<=l.length}) (λk=>⟨[(0,.p Cm l),(3,.sr 10 AU 0 (Ab (l.take k.1)).length),(4,.p (.int .i64) (k.1:Int))],[(10,.arr 106 AU (Ab (l.take k.1)))]⟩) (λk=>l.length-k.1) ⟨0,by omega⟩ (AC [(10,.nil)] rfl rfl ?_ ?_) (λk=>?_)
 .refine eM ?_;rfl
 .refine eM ?_;rfl
 obtain⟨k,f⟩:=k;have m:(Ab (l.take k)).length=k:=by rw[Ci,OS];exact AEd f
 repeat'(first|exact trivial|apply eS rfl|refine rX c ?_ ?_|refine rC ?_ ?_<;>intro b<;>try(cases b;done))
 .refine AK (ι:={q:Nat//q<=(Ab (l.take k)).length/\IX (l.getD k (0,0)) (Ab (l.take k)) q=IX (l.getD k (0,0)) (Ab (l.take k)) (Ab (l.take k)).length}) (λq=>⟨[(0,.p Cm l),(3,.sr 10 AU 0 (Ab (l.take k)).length),(4,.p (.int .i64) (k:Int)),(5,.p (.int .i64) (q.1:Int))],[(10,.arr 106 AU (Ab (l.take k)))]⟩) (λq=>q.1) ⟨(Ab (l.take k)).length,by simp⟩ (eW [(10,.nm 10)]) (λq=>?_)
  obtain⟨q,j,hp⟩:=q;have g:k<l.length:=by omega
  have e1:=l.length_take_le k;have e2:(List.take q (Ab (List.take k l))).length=q:=by rw[OS];exact AEd j
  repeat'(first|exact trivial|apply eS rfl|apply AB|refine rX c ?_ ?_|refine rC ?_ ?_<;>intro b<;>try(cases b;done))
  .exact eV
  .exact eV
  .obtain⟨h1,a⟩:=b;obtain⟨q,rfl⟩:∃r,q=r+1:=⟨q-1,by omega⟩;have d:((q+1:Nat):Int)-1=(q:Int):=by omega
   refine⟨⟨q,by omega,?_⟩,Nat.lt_succ_self q,AC [(10,.nm 10)] rfl rfl ?_ ?_⟩
   .rw[<-hp];simp only[IX];rw[d,RK]at a;rw[BY a]
   .exact eN
   refine eM ?_;show (q:Int)+1-1=q;omega
  .refine⟨by exact eV,?_⟩;rw[e2];unfold AO;omega
  .refine⟨by exact eV,?_⟩;rw[e2];simp only[AO];omega
  .refine⟨by exact eV,?_⟩;rw[e2];simp only[AO,S0];omega
  .exact eV
  have h:IX (l.getD k (0,0)) (Ab (l.take k)) q=q:=by
   cases q with
   | zero=>rfl
   | succ q =>
    have d:((q+1:Nat):Int)-1=(q:Int):=by omega
    have:=b (by omega);rw[d,RK]at this;simp only[IX];rw[As (by omega)]
  have h1:=Au l (0,0) g;have a:Ab (l.take (k+1))=_:=(AAc Ab h1).trans (He _ _);unfold PQ at a;rw[<-hp,h]at a;refine⟨⟨k+1,by exact eV⟩,by simp only;exact eV,AC [(10,.nm 37)] rfl rfl ?_ ?_⟩
  .refine eM ?_;exact a.symm
  refine eM ?_;have e:=AAc List.length a;rw[By,By]at e;exact e.symm
 have hk:l.take k=l:=At (by exact eV);refine mA c (.inl rfl) (rv:=.tmp 2) rfl ?_;simp only[Nv,Kv,Jv,go_sem,Nat.reduceEqDiff,reduceCtorEq,Nat.reduceAdd,Nat.reduceSub,Nat.reduceMul,Nat.reduceLeDiff,Nat.reduceLT,Int.reduceLE,Int.reduceToNat,Int.reduceNeg,↓reduceIte];rw[hk];first|rfl|exact⟨rfl,rfl⟩|exact⟨rfl,rfl,rfl⟩
section
attribute [local go_sem] Ql
abbrev AD:=Int×List (Int×Int)
def D7 (f:List AD):Nat->List Int×List Int->Int->List Int×List Int
 | 0,s,_=>s
 | k+1,s,n=>(Ab (f.getD n.toNat (0,[])).2).foldl (λs a=>if s.1.getD a.2.toNat 0<0 then D7 f k s a.2 else s) (s.1.set n.toNat (s.2.length:Int),s.2++[n])
def Lh (l:List Int):Nat:=l.countP (λx=>decide (x<0))
def AN (f:List AD):Prop:=f.length<=100000/\∀x∈f,x.2.length<=100000/\∀a∈x.2,0<=a.2/\a.2<(f.length:Int)
def UT (f:List AD) (s:List Int×List Int):Prop:=s.1.length=f.length/\s.2.length+Lh s.1<=f.length
theorem A3H {l:List Int} {n:Nat} {v:Int} (hn:n<l.length) (a:l.getD n 0<0) (c:0<=v):Lh (l.set n v)+1=Lh l:=by
 induction l generalizing n with
 | nil=>simp at hn
 | cons x r b =>
  cases n with
  | zero =>
   have hx:x<0:=by simpa using a
   have:¬v<0:=by omega
   simp[Lh,AEr,hx,this]
  | succ n =>
   have h1:=b (n:=n) (by simpa using hn) (by simpa using a);simp only[Lh,AFg,AEr]at h1 ⊢;omega
theorem oI {f:List AD} {s:List Int×List Int} {n:Int} (h:UT f s) (d:0<=n) (hn:n<f.length) (b:s.1.getD n.toNat 0<0) :
  UT f (s.1.set n.toNat (s.2.length:Int),s.2++[n])/\Lh (s.1.set n.toNat (s.2.length:Int))+1=Lh s.1:=by
 obtain⟨h1,c⟩:=h;have a:=A3H (l:=s.1) (n:=n.toNat) (v:=(s.2.length:Int)) (by omega) b (by omega);refine⟨⟨by simpa using h1,?_⟩,a⟩;simp only[By,IS];omega
theorem A0J (s:List (Int×Int)) (x:Int×Int):(PQ s x).Perm (x :: s):=by
 unfold PQ;refine(List.perm_append_comm.append_right _).trans ?_;simp
theorem Lc:∀(l s:List (Int×Int)),(l.foldl PQ s).Perm (l++s)
 | [],s=>List.Perm.refl _
 | x :: l,s=>by
  refine(Lc l (PQ s x)).trans ?_;refine(List.Perm.append_left l (A0J s x)).trans ?_;exact AFy
theorem Ex (l:List (Int×Int)):(Ab l).Perm l:=by
 have:=Lc l [];simpa[Ab] using this
theorem MX {f:List AD} (hf:AN f) (n:Int):List.length (f.getD n.toNat (0,[])).2<=100000:=by
 by_cases h:n.toNat<f.length
 .have a:f.getD n.toNat (0,[])∈f:=by
   rw[AS,AT h];exact S3 h
  exact(hf.2 _ a).1
 rw[AS,RP (by omega)];simp
theorem Up {f:List AD} (hf:AN f) {n:Int} {a:Int×Int} (ha:a∈Ab (f.getD n.toNat (0,[])).2):0<=a.2/\a.2<f.length:=by
 have ha:=(Ex _).mem_iff.1 ha;by_cases h:n.toNat<f.length
 .have b:f.getD n.toNat (0,[])∈f:=by
   rw[AS,AT h];exact S3 h
  exact(hf.2 _ b).2 a ha
 rw[AS,RP (by omega)]at ha;simp at ha
def EY (f:List AD) (k:Nat) (s:List Int×List Int) (a:Int×Int):List Int×List Int:=if s.1.getD a.2.toNat 0<0 then D7 f k s a.2 else s
theorem Fc (f:List AD) (k:Nat) (s:List Int×List Int) (n:Int):D7 f (k+1) s n=(Ab (f.getD n.toNat (0,[])).2).foldl (EY f k) (s.1.set n.toNat (s.2.length:Int),s.2++[n]):=rfl
theorem Uq {f:List AD} {k:Nat} (h:∀(s:List Int×List Int) (n:Int),UT f s->0<=n->n<f.length->s.1.getD n.toNat 0<0->UT f (D7 f k s n)/\Lh (D7 f k s n).1<=Lh s.1) :
  ∀(l:List (Int×Int)) (t:List Int×List Int),(∀a∈l,0<=a.2/\a.2<(f.length:Int))->UT f t->UT f (l.foldl (EY f k) t)/\Lh (l.foldl (EY f k) t).1<=Lh t.1
 | [],t,_,c=>⟨c,If _⟩
 | a :: l,t,hl,c=>by
  simp only[RE];by_cases g:t.1.getD a.2.toNat 0<0
  .obtain⟨i,j⟩:=h t a.2 c (hl a (by simp)).1 (hl a (by simp)).2 g;have e:EY f k t a=D7 f k t a.2:=BY g;rw[e];obtain⟨m,o⟩:=Uq h l _ (λb d=>hl b (by simp[d])) i;exact⟨m,RG o j⟩
  have e:EY f k t a=t:=As g;rw[e];exact Uq h l t (λb d=>hl b (by simp[d])) c
theorem SR {f:List AD} (hf:AN f):∀(k:Nat) (s:List Int×List Int) (n:Int),UT f s->0<=n->n<f.length->s.1.getD n.toNat 0<0->UT f (D7 f k s n)/\Lh (D7 f k s n).1<=Lh s.1
 | 0,s,n,h,_,_,_=>⟨h,If _⟩
 | k+1,s,n,h,h0,h1,d=>by
  obtain⟨e,g⟩:=oI h h0 h1 d;obtain⟨b,c⟩:=Uq (SR hf k) _ _ (λa ha=>Up hf ha) e;rw[Fc];exact⟨b,by simp only at c g;omega⟩
theorem KF {α β:Type} (g:β->α->β) (l:List α) (d:α) (t:β) {i:Nat} (hi:i<l.length):(l.take (i+1)).foldl g t=g ((l.take i).foldl g t) (l.getD i d):=by
 rw[Au l d hi,AEl];rfl
def Ld (f:List AD) (s:List Int×List Int):List (Nat×Obj):=[(1,.box 184 true [.p DE f,.sr 2 T3 0 s.1.length,.sr 3 T3 0 s.2.length]),(2,.arr 3 T3 s.1),(3,.arr 3 T3 s.2)]
theorem A3I (f:List AD) (hf:AN f):∀(k:Nat) (s:List Int×List Int) (n:Int),UT f s->0<=n->n<f.length->s.1.getD n.toNat 0<0->Lh s.1<=k ->
  A9 Tryz.prog 151 [.bp 1 [] 0,.p T3 n] (Ld f s) [1] (λres M=>res=.raw (.tuple #[])/\M=Ld f (D7 f k s n)):=by
 intro k;induction k with
 | zero =>
  intro s n h0 h1 u B N;obtain⟨_,O⟩:=oI h0 h1 u B;omega
 | succ k J =>
  intro s n A w m x hk;obtain⟨num,g⟩:=s;obtain⟨t,v⟩:=oI A w m x;obtain⟨G,H⟩:=A;simp only at G H x t v hk;refine KY [0,1,4,5,40,54] [] [] Tryz.func151 Tryz.ntmps151 (AF ZO AH) ?_;intro w0 K O0 ρ0 c Q R;simp only[Ld,Ak];repeat'(first|exact trivial|apply eS rfl|refine rX c ?_ ?_)
  .exact eV
  .have:=hf.1;simp only[AO];omega
  .have I:=MX hf n;exact⟨⟨w,m⟩,RG I (by omega)⟩
  have l:=λa (ha:a∈Ab (f.getD n.toNat (0,[])).2)=>Up hf ha;have D:(Ab (f.getD n.toNat (0,[])).2).length<=100000:=by rw[Ci];exact MX hf n
  generalize C:Ab (f.getD n.toNat (0,[])).2=L at l D;generalize o:(num.set n.toNat (g.length:Int),g++[n])=s1 at t;have F:∀i,UT f ((L.take i).foldl (EY f k) s1)/\Lh ((L.take i).foldl (EY f k) s1).1<=Lh s1.1:=λi=>Uq (SR hf k) _ _ (λa ha=>l a (S4 ha)) t;have m:num.set n.toNat (g.length:Int)=s1.1:=by rw[<-o]
  have P:g++[n]=s1.2:=by rw[<-o]
  rw[m]at v;refine AK (ι:={i:Nat//i<=L.length}) (λi=>⟨[(0,.bp 1 [] 0),(1,.p T3 n),(4,.p Cm L),(5,.p (.int .i64) (i.1:Int))],Ld f ((L.take i.1).foldl (EY f k) s1)⟩) (λi=>L.length-i.1) ⟨0,by omega⟩ (AAI [36] (AC [(1,.nm 1),(2,.nm 2),(3,.nm 3)] rfl rfl ?_ ?_)) (λi=>?_)
  .simp only[Ld];refine eM ?_;simp only[AFq];rw[<-o];simp
  .exact eN
  obtain⟨i,hi⟩:=i;obtain⟨r,E⟩:=F i;have q:=λ(h:i<L.length)=>KF (EY f k) L (0,0) s1 h;generalize z:(L.take i).foldl (EY f k) s1=b at r E q;simp only[Ld];repeat'(first|exact trivial|apply eS rfl|apply AB|refine rX c ?_ ?_|refine rC ?_ ?_<;>intro j<;>try(cases j;done))
  .have d:i<L.length:=by exact eV
   have:=l _ (AE L (0,0) d);obtain⟨h1,u⟩:=r;refine⟨by exact eV,this.1,?_⟩;rw[h1];exact this.2
  .have d:i<L.length:=by exact eV
   have y:=l _ (AE L (0,0) d);refine cP 6 c ?_ ?_
   .exact eV
   refine rM c (J b (L.getD i (0,0)).2 r y.1 y.2 (by simpa using j) (by omega)) [(1,.nm 1),(2,.nm 2),(3,.nm 3)] [2,3] ?_ ?_ ?_
   .exact eN
   .simp only[Ld];exact eN
   rintro _ _ ⟨rfl,rfl⟩;refine⟨[(1,.nm 1),(2,.nm 2),(3,.nm 3)],.raw (.tuple #[]),Ld f (D7 f k b (L.getD i (0,0)).2),rfl,rfl,?_,?_,rfl,rfl,BV ?_⟩
   .simp only[Ld];exact eN
   .exact eN
   repeat'(first|apply eS rfl|apply AB|refine rX c ?_ ?_)
   .exact eV
   have e:EY f k b (L.getD i (0,0))=D7 f k b (L.getD i (0,0)).2:=BY (by simpa using j);refine⟨⟨i+1,by omega⟩,by simp only;omega,AC [(1,.nm 1),(2,.nm 2),(3,.nm 3)] rfl rfl ?_ ?_⟩
   .simp only[Ld,q d,e];exact eN
   exact eN
  .exact eV
  .have d:i<L.length:=by exact eV
   have e:EY f k b (L.getD i (0,0))=b:=As (by simpa using j);refine⟨⟨i+1,by omega⟩,by simp only;omega,AC [(1,.nm 1),(2,.nm 2),(3,.nm 3)] rfl rfl ?_ ?_⟩
   .simp only[q d,e];exact eN
   exact eN
  have hk:L.take i=L:=At (by exact eV);rw[hk]at z;have h1:D7 f (k+1) (num,g) n=b:=by rw[Fc,C,<-z,<-o]
  rw[h1];exact fM c [] (.raw (.tuple #[])) rfl ⟨rfl,rfl⟩
end
section
attribute [local go_sem] Ql
def iO (f:List AD) (s:List Int×List Int):Prop:=∀n∈s.2,0<=n/\n<(f.length:Int)
theorem Wz {f:List AD} (hf:AN f):∀(k:Nat) (s:List Int×List Int) (n:Int),iO f s->0<=n->n<f.length->iO f (D7 f k s n)
 | 0,s,n,h,_,_=>h
 | k+1,s,n,h,h0,h1=>by
  rw[Fc];have key:∀(l:List (Int×Int)) (t:List Int×List Int),(∀a∈l,0<=a.2/\a.2<(f.length:Int))->iO f t->iO f (l.foldl (EY f k) t):=by
   intro l;induction l with
   | nil=>intro t _ d;exact d
   | cons a l g =>
    intro t hl d;simp only[RE];refine g _ (λb e=>hl b (by simp[e])) ?_;unfold EY;split
    .exact Wz hf k t a.2 d (hl a (by simp)).1 (hl a (by simp)).2
    exact d
  refine key _ _ (λa ha=>Up hf ha) ?_;intro m c;simp only[Is,RM]at c;rcases c with c|rfl
  .exact h m c
  exact⟨h0,h1⟩
def GR (f:List AD) (root:Int):List Int×List Int:=D7 f f.length (List.replicate f.length (-1),[]) root
def YN (num:List Int) (a:Int×Int):Int×Int:=(a.1,num.getD a.2.toNat 0)
def MY (f:List AD) (num:List Int) (n:Int):AD:=((f.getD n.toNat (0,[])).1,(Ab (f.getD n.toNat (0,[])).2).map (YN num))
def JK (f:List AD) (root:Int):List AD:=(GR f root).2.map (MY f (GR f root).1)
theorem iP (m:Nat):Lh (List.replicate m (-1))=m:=by
 induction m with
 | zero=>rfl
 | succ m a=>simp only[Lh,AFa,AEr]at a ⊢;simp[a]
theorem tr0 (f:List AD):UT f (List.replicate f.length (-1),[]):=⟨by simp,by simp[iP]⟩
theorem yC {f:List AD} {n:Int} (h0:0<=n) (h1:n<f.length):(List.replicate f.length (-1:Int)).getD n.toNat 0<0:=by
 have:n.toNat<f.length:=by omega
 simp[AS,AEk,this]
theorem yD {f:List AD} (hf:AN f) {n:Int} (h0:0<=n) (h1:n<f.length):UT f (GR f n)/\iO f (GR f n) :=
 ⟨(SR hf _ _ n (tr0 f) h0 h1 (yC h0 h1)).1,Wz hf _ _ n (λm a=>by simp at a) h0 h1⟩
theorem W8 {α β:Type} (g:α->β) (h:β->α) (L:List α) (d:α) {k:Nat} (hk:k<L.length) (u:α->α):((L.take k).map u++L.drop k).set k (u (L.getD k d))=(L.take (k+1)).map u++L.drop (k+1)/\((L.take k).map u++L.drop k).getD k d=L.getD k d:=by
 have h1:((L.take k).map u).length=k:=by simp;omega
 have a:L.drop k=L.getD k d :: L.drop (k+1):=by
  rw[Of hk,AS,AT hk];rfl
 constructor
 .rw[Au L d hk,AEs _ _ (by omega),h1,AE5,a];simp
 rw[AS,RW (by omega),h1,AE5,a];rfl
def ZP:AZ:={ ins:=[DE,T3],pre:=λ(f,n,_)=>AN f/\0<=n/\n<(List.length f:Int),out:=λ(f,n,_)=>[.p DE (JK f n)] }
theorem A7A:Af Tryz.prog 114 ZP:=by
 refine fK [0,1,2,4,5,6,7,8,9,10,11,19,40,60] Tryz.func114 Tryz.ntmps114 (AF ZO AH) ?_;rintro w0 O0 ⟨f,root,u⟩ d-⟨hf,l,m⟩;simp only[ZP,AM];have G:=hf.1;repeat'(first|exact trivial|apply eS rfl|refine rX d ?_ ?_)
 refine AK (ι:={i:Nat//i<=f.length}) (λi=>⟨[(1,.p T3 root),(2,.bp 2 [] 0),(4,.bp 4 [] 0),(5,.bp 14 [] 0),(6,.p (.int .i64) (i.1:Int))],[(2,.box 25 true [.p G2 f]),(4,.box 25 true [.raw (.slice none 0 0)]),(14,.box 184 true [.p DE f,.sr 10 T3 0 i.1,.raw (.slice none 0 0)]),(10,.arr 3 T3 (List.replicate i.1 (-1)))]⟩) (λi=>f.length-i.1) ⟨0,by omega⟩ (AC [(2,.nm 2),(4,.nm 4),(14,.nm 14),(10,.nil)] rfl rfl ?_ ?_) (λi=>?_)
 .refine eM ?_;rfl
 .exact eN
 obtain⟨i,hi⟩:=i;repeat'(first|exact trivial|apply eS rfl|apply AB|refine rX d ?_ ?_|refine rC ?_ ?_<;>intro h<;>try(cases h;done))
 .simp only[AO];omega
 .exact eV
 .have hi:i<List.length f:=by exact eV
  refine⟨⟨i+1,by omega⟩,by simp only;omega,AC [(2,.nm 2),(4,.nm 4),(14,.nm 14),(10,.nm 10)] rfl rfl ?_ ?_⟩
  .refine eM ?_;rw[List.replicate_succ'];simp
  exact eN
 have A:i=List.length f:=by exact eV
 subst A;have w:=yD hf l m;refine cP 2 d ?_ ?_
 .trivial
 refine rM d (A3I f hf (List.length f) (List.replicate (List.length f) (-1),[]) root (tr0 f) l m (yC l m) (by rw[iP];exact If _)) [(1,.nm 14),(2,.nm 10),(3,.nil)] [10] ?_ ?_ ?_
 .exact eN
 .simp only[Ld];refine eM ?_;simp
 rintro _ _ ⟨rfl,rfl⟩;refine⟨[(14,.nm 1),(101,.nm 2),(102,.nm 3)],.raw (.tuple #[]),[(14,.box 184 true [.p DE f,.sr 101 T3 0 (GR f root).1.length,.sr 102 T3 0 (GR f root).2.length]),(101,.arr 3 T3 (GR f root).1),(102,.arr 3 T3 (GR f root).2)],rfl,rfl,?_,?_,rfl,rfl,BV ?_⟩
 .simp only[Ld,GR];exact eN
 .exact eN
 have z:JK f root=(GR f root).2.map (MY f (GR f root).1):=rfl;rw[z];generalize GR f root=s at w;obtain⟨num,c⟩:=s;obtain⟨⟨r,t⟩,j⟩:=w;simp only at r t;have j:∀n∈c,0<=n/\n<(List.length f:Int):=j;repeat'(first|exact trivial|apply eS rfl|refine rX d ?_ ?_)
 refine AK (ι:={i:Nat//i<=c.length}) (λi=>⟨[(2,.bp 2 [] 0),(4,.bp 4 [] 0),(5,.bp 14 [] 0),(7,.bp 7 [] 0),(8,.p (.int .i64) (i.1:Int))],[(2,.box 25 true [.p G2 f]),(4,.box 25 true [.raw (.slice none 0 0)]),(14,.box 184 true [.p DE f,.sr 101 T3 0 num.length,.sr 102 T3 0 c.length]),(101,.arr 3 T3 num),(102,.arr 3 T3 c),(7,.box 25 true [.sr 200 Hd 0 i.1]),(200,.arr 93 Hd ((c.take i.1).map (MY f num)))]⟩) (λi=>c.length-i.1) ⟨0,by omega⟩ (eW [(2,.nm 2),(4,.nm 4),(14,.nm 14),(101,.nm 101),(102,.nm 102),(7,.nm 7),(200,.nil)]) (λi=>?_)
 obtain⟨i,hi⟩:=i;repeat'(first|exact trivial|apply eS rfl|refine rX d ?_ ?_|refine rC ?_ ?_<;>intro h<;>try(cases h;done))
 .have hi:i<c.length:=by exact eV
  exact⟨by exact eV,j _ (AE c 0 hi)⟩
 .exact RG (MX hf _) (by omega)
 .have hi:i<c.length:=by exact eV
  have q:=λa (ha:a∈Ab (f.getD (Int.toNat (c.getD i 0)) (0,[])).2)=>Up hf ha;have v:MY f num (c.getD i 0)=((f.getD (Int.toNat (c.getD i 0)) (0,[])).1,(Ab (f.getD (Int.toNat (c.getD i 0)) (0,[])).2).map (YN num)):=rfl;have B:=MX hf (c.getD i 0);generalize List.getD f (Int.toNat (c.getD i 0)) (0,[])=x at *;obtain⟨E,o⟩:=x;simp only at q v B;have F:=Ci o;generalize Ab o=L at *;refine AK (ι:={k:Nat//k<=L.length}) (λk=>⟨[(2,.bp 2 [] 0),(4,.bp 4 [] 0),(5,.bp 14 [] 0),(7,.bp 7 [] 0),(8,.p (.int .i64) (i:Int)),(9,.bp 9 [] 0),(10,.sr 56 AU 0 L.length),(11,.p (.int .i64) (k.1:Int))],[(56,.arr 106 AU ((L.take k.1).map (YN num)++L.drop k.1)),(9,.box 93 true [.p T3 E,.p Cm o]),(2,.box 25 true [.p G2 f]),(4,.box 25 true [.raw (.slice none 0 0)]),(14,.box 184 true [.p DE f,.sr 101 T3 0 num.length,.sr 102 T3 0 c.length]),(101,.arr 3 T3 num),(102,.arr 3 T3 c),(7,.box 25 true [.sr 200 Hd 0 i]),(200,.arr 93 Hd ((c.take i).map (MY f num)))]⟩) (λk=>L.length-k.1) ⟨0,by omega⟩ (eW [(2,.nm 2),(4,.nm 4),(14,.nm 14),(101,.nm 101),(102,.nm 102),(7,.nm 7),(200,.nm 200),(9,.nm 9),(56,.nm 56)]) (λk=>?_)
  obtain⟨k,hk⟩:=k;repeat'(first|exact trivial|apply eS rfl|apply AB|refine rX d ?_ ?_|refine rC ?_ ?_<;>intro h<;>try(cases h;done))
  .have g:k<L.length:=by exact eV
   have e:=(W8 (YN num) (λb=>b) L (0,0) g (YN num)).2;rw[e];have:=q _ (AE L (0,0) g);rw[r];exact⟨by exact eV,this,by exact eV⟩
  .exact eV
  .have g:k<L.length:=by exact eV
   have e:=W8 (YN num) (λb=>b) L (0,0) g (YN num);refine⟨⟨k+1,by omega⟩,by simp only;omega,AC [(2,.nm 2),(4,.nm 4),(14,.nm 14),(101,.nm 101),(102,.nm 102),(7,.nm 7),(200,.nm 200),(9,.nm 9),(56,.nm 56)] rfl rfl ?_ ?_⟩
   .refine eM ?_;rw[e.2];exact e.1
   exact eN
  .simp only[AO];have:=t;omega
  .exact eV
  have g:L.take k=L:=At (by exact eV);have y:L.drop k=[]:=RC (by exact eV);refine⟨⟨i+1,by omega⟩,by simp only;omega,AC [(2,.nm 2),(4,.nm 4),(14,.nm 14),(101,.nm 101),(102,.nm 102),(7,.nm 7),(200,.nm 200)] rfl rfl ?_ ?_⟩
  .refine eM ?_;rw[g,y,Ra,Au c 0 hi,Sw,RS,AEL,v];have C:List.take i ((c.take i).map (MY f num))=(c.take i).map (MY f num):=At (by rw[OR,OS];omega);have D:List.take L.length (L.map (YN num))=L.map (YN num):=At (by rw[OR];omega);rw[C,D]
  exact eN
 have hk:c.take i=c:=At (by exact eV);rw[hk];refine fI d [.cell 4 25] (by first|exact eR|refine Yw ?_;exact At (by rw[OR];exact eV))
end
section
attribute [local go_sem] A3F ZP
theorem W9 {n:Int}:∀ {l seen:List (Int×Int)},F6 n seen l=0->∀a∈l,0<=a.1/\0<=a.2/\a.2<n
 | [],_,_,a,ha=>by cases ha
 | x :: l,seen,h,a,ha=>by
  simp only[F6]at h;split at h
  .cases h
  split at h
  .cases h
  rename_i h1 _;rcases DO.1 ha with rfl|ha
  .omega
  exact W9 h a ha
theorem LF {m:Int}:∀ {f:List (Int×List (Int×Int))},GQ m f=0->∀x∈f,0<=x.1/\∀a∈x.2,0<=a.1/\0<=a.2/\a.2<m
 | [],_,x,hx=>by cases hx
 | y :: f,h,x,hx=>by
  simp only[GQ]at h;split at h
  .cases h
  split at h
  .rename_i h1 b;exact absurd h b
  rename_i h1 b;have b:GP y.2 m=0:=FT b;rcases DO.1 hx with rfl|hx
  .exact⟨by omega,W9 b⟩
  exact LF h x hx
def SS (f:List (Int×List (Int×Int))):Prop:=∀x∈f,x.2.length<=100000
theorem IY {f:List (Int×List (Int×Int))} (h:CE f=0) (hs:SS f):AN f/\0<f.length:=by
 unfold CE at h;split at h
 .cases h
 split at h
 .cases h
 refine⟨⟨by omega,λx hx=>⟨hs x hx,λa ha=>?_⟩⟩,by omega⟩;have:=(LF h x hx).2 a ha;exact⟨this.2.1,this.2.2⟩
def A0 (f:List AD):List AD×Int:=if CE f=0 then (JK f 0,0) else ([],CE f)
def ST:AZ:={ ins:=[DE],pre:=λ(f,_)=>SS f,out:=λ(f,_)=>[.p DE (A0 f).1,.p GI (A0 f).2] }
theorem A3J:Af Tryz.prog 82 ST:=by
 refine fK [0,1,2,3,4,8] Tryz.func82 Tryz.ntmps82 (AF A7z (AF A7A AH)) ?_;rintro w0 O0 ⟨f,u⟩ b-hs;simp only[ST,AM];repeat'(first|exact trivial|apply eS rfl|refine rX b ?_ ?_|refine rC ?_ ?_<;>intro a<;>try(cases a;done))
 .have h:¬CE f=0:=by simpa using a
  have e:A0 f=([],CE f):=As h;exact fI b [.cell 2 25,.tmp 3] (by rw[e];exact eR)
 .have h:CE f=0:=by simpa using a
  have:=IY h hs;exact⟨this.1,by exact eV⟩
 have h:CE f=0:=by simpa using a
 have e:A0 f=(JK f 0,0):=BY h;exact fI b [.cell 2 25,.tmp 3] (by rw[e];exact eR)
end
def inF (l:List Int) (n:Int):Bool:=l.any λx=>x==n
def ZQ:AZ:={ ins:=[T3],pre:=λ_=>True,out:=λ(t,_)=>[.p DE [(t,[])]] }
theorem A7B:Af Tryz.prog 27 ZQ:=by
 refine fK [0,2] Tryz.func27 Tryz.ntmps27 AH ?_;rintro w0 O0 ⟨t,u⟩ a - -;simp only[ZQ,AM];repeat'(first|exact trivial|apply eS rfl|apply AB|refine rX a ?_ ?_|refine rC ?_ ?_<;>intro b<;>try(cases b;done))
 exact fI a [.cell 2 25]
section
attribute [local go_sem] SM ST IV
def ftB (a:Int×Int):Bool:=decide (a.1<64)
def ndB (x:AD):Bool:=decide (x.1<256)&&x.2.all ftB
def D8 (f:List AD):Bool:=HO f&&f.all ndB&&((A0 f).2==0&&(CQ (A0 f).1 f==0))
theorem MZ {f:List AD} (h:HO f=true):f.length<=12/\∀x∈f,x.2.length<=12:=by
 unfold HO at h;simp only[An,Do,ON]at h;exact h
theorem oJ {f:List AD} (hf:AN f) {n:Int} (h0:0<=n) (h1:n<f.length):EV (JK f n):=by
 obtain⟨⟨a,b⟩,_⟩:=yD hf h0 h1;have c:=hf.1;refine⟨?_,λx hx=>?_⟩
 .unfold JK;rw[OR];omega
 obtain⟨m,_,rfl⟩:=GO.1 hx;unfold MY;simp only[OR,Ci];exact MX hf m
theorem iQ {f:List AD} (hs:SS f):EV (A0 f).1:=by
 unfold A0;split
 .rename_i h;obtain⟨h1,a⟩:=IY h hs;exact oJ h1 (by omega) (by omega)
 exact⟨by simp,λx hx=>by cases hx⟩
end
section
def oK:AZ:={ ins:=[T3],pre:=λ_=>True,out:=λ_=>[.p .bool false] }
attribute [local go_sem] oK
def UU (a b:Int):Int:=if a<b then -1 else if b<a then 1 else 0
def HB:AZ:={ ins:=[T3,T3],pre:=λ_=>True,out:=λ(a,b,_)=>[.p T3 (UU a b)] }
attribute [local go_sem] HB
def Cv:AZ:={ ins:=[AU,AU],pre:=λ_=>True,out:=λ(a,b,_)=>[.p T3 (UU (Prod.fst a) (Prod.fst b))] }
attribute [local go_sem] Cv
theorem A3K:Af Tryz.prog 224 oK:=by
 refine fK [0,2] Tryz.func224 Tryz.ntmps224 AH ?_;rintro w0 O0 ⟨x,u⟩ a - -;simp only[oK,AM];repeat'(first|exact trivial|apply eS rfl|refine rX a ?_ ?_)
 exact fI a [.tmp 2]
theorem YO:Af Tryz.prog 208 HB:=by
 refine fK [0,1,4,5,6,11,12,13,16,19] Tryz.func208 Tryz.ntmps208 (AF A3K AH) ?_;rintro w0 O0 ⟨a,b,u⟩ c - -;simp only[HB,AM];repeat'(first|exact trivial|apply eS rfl|refine rX c ?_ ?_|refine rC ?_ ?_<;>intro d<;>try(cases d;done))
 .have e:UU a b=-1:=BY d;exact fI c [.tmp 4] (by rw[e];exact eR)
 .have e:UU a b=1:=by unfold UU;rw[As (by omega),BY d]
  exact fI c [.tmp 4] (by rw[e];exact eR)
 have e:UU a b=0:=by unfold UU;rw[As (by omega),As (by omega)]
 exact fI c [.tmp 4] (by rw[e];exact eR)
theorem Ey:Af Tryz.prog 192 Cv:=by
 refine fK [0,1,2,3,4] Tryz.func192 Tryz.ntmps192 (AF YO AH) ?_;rintro w0 O0 ⟨a,b,u⟩ c - -;simp only[Cv,AM];repeat'(first|exact trivial|apply eS rfl|refine rX c ?_ ?_)
 exact fI c [.tmp 4]
def iR (l:List (Int×Int)):Prop:=∀i,i+1<l.length->(l.getD i (0,0)).1<(l.getD (i+1) (0,0)).1
end
def Ca (f:List AD):Nat->List Int->Int->List Int
 | 0,o,_=>o
 | k+1,o,n=>(f.getD n.toNat (0,[])).2.foldl (λo a=>if a.2∈o then o else Ca f k o a.2) (o++[n])
def AX (f:List AD) (k:Nat) (o:List Int) (a:Int×Int):List Int:=if a.2∈o then o else Ca f k o a.2
theorem Bu (f:List AD) (k:Nat) (o:List Int) (n:Int):Ca f (k+1) o n=(f.getD n.toNat (0,[])).2.foldl (AX f k) (o++[n]):=rfl
structure Ji (f:List AD) (o:List Int):Prop where
 nd:o.Nodup
 rng:∀x∈o,0<=x/\x<(f.length:Int)
theorem Ji.len {f:List AD} {o:List Int} (h:Ji f o):o.length<=f.length:=by
 have h1:(o.map Int.toNat).Nodup:=by
  rw[List.Nodup,AAe];refine h.nd.imp_of_mem λ{a b} ha c g e=>g ?_;have:=h.rng a ha;have:=h.rng b c;omega
 have:=EM f.length (o.map Int.toNat) h1 (λj d=>by
  obtain⟨x,hx,rfl⟩:=GO.1 d;have:=h.rng x hx;omega)
 simpa using this
theorem Ji.snoc {f:List AD} {o:List Int} (h:Ji f o) {n:Int} (h0:0<=n) (h1:n<f.length) (hn:n∉o):Ji f (o++[n]):=by
 refine⟨?_,λx hx=>?_⟩
 .rw[ADA];refine⟨h.nd,by simp,λa ha b c=>?_⟩;grind
 rcases Is.1 hx with hx|hx
 .exact h.rng x hx
 grind
theorem EH {f:List AD} {k:Nat} (i:∀(o:List Int) (n:Int),Ji f o->0<=n->n<f.length->n∉o->Ji f (Ca f k o n)/\o <+: Ca f k o n) :
  ∀(l:List (Int×Int)) (o:List Int),(∀a∈l,0<=a.2/\a.2<(f.length:Int))->Ji f o->Ji f (l.foldl (AX f k) o)/\o <+: l.foldl (AX f k) o
 | [],o,_,h=>⟨h,ADy _⟩
 | a :: l,o,hl,h=>by
  simp only[RE];have c:Ji f (AX f k o a)/\o <+: AX f k o a:=by grind [AX]
  obtain⟨d,e⟩:=EH i l _ (λb g=>hl b (by simp[g])) c.1;exact⟨d,c.2.trans e⟩
theorem Ay {f:List AD} (hf:AN f) {n:Int} {a:Int×Int} (ha:a∈(f.getD n.toNat (0,[])).2):0<=a.2/\a.2<f.length:=by
 by_cases h:n.toNat<f.length
 .have b:f.getD n.toNat (0,[])∈f:=by
   rw[AS,AT h];exact S3 h
  exact(hf.2 _ b).2 a ha
 grind
theorem DW {f:List AD} (hf:AN f):∀(k:Nat) (o:List Int) (n:Int),Ji f o->0<=n->n<f.length->n∉o->Ji f (Ca f k o n)/\o <+: Ca f k o n
 | 0,o,n,h,_,_,_=>⟨h,ADy _⟩
 | k+1,o,n,h,h0,h1,d=>by
  obtain⟨b,c⟩:=EH (DW hf k) _ _ (λa ha=>Ay hf ha) (h.snoc h0 h1 d);rw[Bu];exact⟨b,(AFh o [n]).trans c⟩
theorem IZ {f:List AD} (hf:AN f):∀(k:Nat) (o:List Int) (n:Int),Ji f o->0<=n->n<f.length->n∉o->f.length-o.length<=k ->
  n∈Ca f k o n/\∀x∈Ca f k o n,x∈o\/∀a∈(f.getD x.toNat (0,[])).2,a.2∈Ca f k o n
 | 0,o,n,h,h0,h1,i,hk=>by
  have:=(h.snoc h0 h1 i).len;grind
 | k+1,o,n,h,h0,h1,i,hk=>by
  have key:∀(l:List (Int×Int)) (t:List Int),(∀a∈l,0<=a.2/\a.2<(f.length:Int))->Ji f t->f.length-t.length<=k ->
    (∀a∈l,a.2∈l.foldl (AX f k) t)/\∀x∈l.foldl (AX f k) t,x∈t\/∀a∈(f.getD x.toNat (0,[])).2,a.2∈l.foldl (AX f k) t:=by
   intro l;induction l with
   | nil=>exact λt _ _ _=>⟨λa ha=>(by cases ha),λx hx=>.inl hx⟩
   | cons a l s =>
    intro t hl m p;simp only[RE];have r:Ji f (AX f k t a)/\t <+: AX f k t a/\a.2∈AX f k t a/\∀x∈AX f k t a,x∈t\/∀b∈(f.getD x.toNat (0,[])).2,b.2∈AX f k t a:=by
     unfold AX;split
     .grind
     rename_i hn;have q:=hl a (by simp);obtain⟨c,d⟩:=DW hf k t a.2 m q.1 q.2 hn;obtain⟨e,j⟩:=IZ hf k t a.2 m q.1 q.2 hn p;exact⟨c,d,e,j⟩
    obtain⟨c,d,e,j⟩:=r;have u:=d.length_le;obtain⟨v,w⟩:=s (AX f k t a) (λb g=>hl b (by simp[g])) c (by omega);obtain⟨_,y⟩:=EH (DW hf k) l (AX f k t a) (λb g=>hl b (by simp[g])) c;refine⟨λb g=>?_,λx hx=>?_⟩
    .grind
    grind
  have hs:=h.snoc h0 h1 i;obtain⟨c,d⟩:=key (f.getD n.toNat (0,[])).2 (o++[n]) (λa ha=>Ay hf ha) hs (by simp only[By,IS];omega);obtain⟨_,e⟩:=EH (DW hf k) (f.getD n.toNat (0,[])).2 (o++[n]) (λa ha=>Ay hf ha) hs;rw[Bu];refine⟨e.subset (by simp),λx hx=>?_⟩;grind
def Bv (o:List Int) (x:Int):Int:=if x∈o then (o.idxOf x:Int) else 0
def HC (o:List Int) (a:Int×Int):Int×Int:=(a.1,Bv o a.2)
def Cj (f:List AD) (o:List Int) (n:Int):AD:=((f.getD n.toNat (0,[])).1,(f.getD n.toNat (0,[])).2.map (HC o))
def AL (f:List AD) (root:Int):List AD:=(Ca f f.length [] root).map (Cj f (Ca f f.length [] root))
def Io (f:List AD):Prop:=∀x∈f,iR x.2/\x.2.length<=200
theorem oL {f:List AD} (hf:Io f) (n:Int):iR (f.getD n.toNat (0,[])).2/\(f.getD n.toNat (0,[])).2.length<=200:=by
 by_cases h:n.toNat<f.length
 .have a:f.getD n.toNat (0,[])∈f:=by
   rw[AS,AT h];exact S3 h
  exact hf _ a
 rw[AS,RP (by omega)];exact⟨λi hi=>by simp at hi,by simp⟩
theorem JL {l:List (Int×Int)} (h:iR l):Ab l=l:=by
 have key:∀i,i<=l.length->Ab (l.take i)=l.take i:=by
  intro i;induction i with
  | zero=>intro _;rfl
  | succ i d =>
   intro hi;rw[Au l (0,0) (by omega),He,d (by omega)];have b:(l.take i).length=i:=by rw[OS];omega
   have c:IX (l.getD i (0,0)) (l.take i) (l.take i).length=(l.take i).length:=by
    rw[b];cases i with
    | zero=>rfl
    | succ i =>
     have h1:=h i (by omega);have a:(l.take (i+1)).getD i (0,0)=l.getD i (0,0):=by grind
     simp only[IX];rw[a,As (by omega)]
   unfold PQ;rw[c,RD,AEh,Ra]
 have:=key l.length (If _)
 rwa [RD]at this
structure Le (f:List AD) (num o:List Int):Prop where
 len:num.length=f.length
 get:∀j,j<f.length->num.getD j 0=if (j:Int)∈o then (o.idxOf (j:Int):Int) else -1
theorem Le.neg {f:List AD} {num o:List Int} (h:Le f num o) {n:Int} (h0:0<=n) (h1:n<f.length):num.getD n.toNat 0<0↔n∉o:=by
 have:=h.get n.toNat (by omega);grind
theorem A0K {o:List Int} {n:Int} (h:n∉o):(o++[n]).idxOf n=o.length:=by rw[AFt,As h];simp
theorem Le.snoc {f:List AD} {num o:List Int} (h:Le f num o) {n:Int} (h0:0<=n) (h1:n<f.length) (hn:n∉o):Le f (num.set n.toNat (o.length:Int)) (o++[n]):=by
 refine⟨by simpa using h.len,λj a=>?_⟩;have c:j<num.length:=by rw[h.len];exact a
 by_cases e:j=n.toNat
 .grind
 have en:¬(j:Int)=n:=by omega
 simp only[AS];rw[List.getElem?_set_ne (λb=>e b.symm)];have:=h.get j a;grind
theorem XA {f:List AD} (hf:AN f) (hs:Io f):∀(k:Nat) (s:List Int×List Int) (n:Int),Le f s.1 s.2->Ji f s.2->0<=n->n<f.length->n∉s.2->(D7 f k s n).2=Ca f k s.2 n/\Le f (D7 f k s n).1 (D7 f k s n).2
 | 0,s,n,h,_,_,_,_=>⟨rfl,h⟩
 | k+1,s,n,h,r,h0,h1,i=>by
  have key:∀(l:List (Int×Int)) (t:List Int×List Int),(∀a∈l,0<=a.2/\a.2<(f.length:Int))->Le f t.1 t.2->Ji f t.2->(l.foldl (EY f k) t).2=l.foldl (AX f k) t.2/\Le f (l.foldl (EY f k) t).1 (l.foldl (EY f k) t).2:=by
   intro l;induction l with
   | nil=>exact λt _ e _=>⟨rfl,e⟩
   | cons a l x =>
    intro t hl e j;simp only[RE];have q:=hl a (by simp);have u:=e.neg q.1 q.2;have v:(EY f k t a).2=AX f k t.2 a/\Le f (EY f k t a).1 (EY f k t a).2/\Ji f (EY f k t a).2:=by
     unfold EY AX;by_cases d:a.2∈t.2
     .grind
     rw[As d,BY (by rw[u];exact d)];obtain⟨c,g⟩:=XA hf hs k t a.2 e j q.1 q.2 d;exact⟨c,g,by rw[c];exact(DW hf k t.2 a.2 j q.1 q.2 d).1⟩
    obtain⟨c,g,o⟩:=v;obtain⟨m,w⟩:=x (EY f k t a) (λb p=>hl b (by simp[p])) g o;rw[c]at m;exact⟨m,w⟩
  rw[Fc,Bu,JL (oL hs n).1];exact key _ (s.1.set n.toNat (s.2.length:Int),s.2++[n]) (λa ha=>Ay hf ha) (h.snoc h0 h1 i) (r.snoc h0 h1 i)
theorem Ia {f:List AD} (hf:AN f) (hs:Io f) {root:Int} (h0:0<=root) (h1:root<f.length):JK f root=AL f root:=by
 have h:Le f (List.replicate f.length (-1)) []:=⟨by simp,λj g=>by simp[AS,AEk,g]⟩;have d:Ji f []:=⟨by simp,λx hx=>by cases hx⟩;obtain⟨c,b⟩:=XA hf hs f.length (List.replicate f.length (-1),[]) root h d h0 h1 (by simp);have c:(GR f root).2=Ca f f.length [] root:=c;have b:Le f (GR f root).1 (GR f root).2:=b;have i:=(IZ hf f.length [] root d h0 h1 (by simp) (by simp)).2;have k:=(DW hf f.length [] root d h0 h1 (by simp)).1;unfold JK AL;rw[c]at b ⊢;generalize Ca f f.length [] root=o at *;refine RI λx hx=>?_;unfold MY Cj;rw[JL (oL hs x).1];refine AAc _ (RI λa ha=>?_);unfold YN HC Bv;have e:a.2∈o:=by grind
 have l:=Ay hf ha;have:=b.get a.2.toNat (by omega);rw[show ((a.2.toNat:Nat):Int)=a.2 by omega]at this;rw[this,BY e,BY e]
def lG (o:List Int):List (Int×Int):=(List.range o.length).map λi=>(o.getD i 0,(i:Int))
theorem iT (o:List Int) (n:Int):lG (o++[n])=lG o++[(n,(o.length:Int))]:=by
 unfold lG;rw[By,IS,S5,Sw]
 congr 1
 .refine RI λi hi=>?_;grind
 simp[AS]
theorem A0L (k:Int) (a b:List (Int×Int)):BT T3 T3 k (a++b)=(BT T3 T3 k a).or (BT T3 T3 k b):=by
 induction a with
 | nil=>rfl
 | cons x a c =>
  simp only[AE6,BT];split
  .rfl
  exact c
theorem EO {α:Type} {p:List α->Prop} (h0:p []) (h1:∀l a,p l->p (l++[a])) (l:List α):p l:=by
 have:∀n (l:List α),l.length=n->p l:=by
  intro n;induction n with
  | zero=>intro l hl;rw[List.length_eq_zero_iff.1 hl];exact h0
  | succ n c =>
   intro l hl;have b:l≠[]:=by intro e;subst e;simp at hl
   rw[<-List.dropLast_concat_getLast b];exact h1 _ _ (c _ (by simp[hl]))
 exact this _ l rfl
theorem SU (o:List Int) (x:Int):BT T3 T3 x (lG o)=if x∈o then some (o.idxOf x:Int) else none:=by
 induction o using EO with
 | h0=>rfl
 | h1 o n a =>
  rw[iT,A0L,a];by_cases hx:x∈o
  .grind
  grind [A0K,BT,Ik]
theorem A0M (k v:Int) (l:List (Int×Int)) (h:BT T3 T3 k l=none):Fl T3 T3 k v l=l++[(k,v)]:=by
 induction l with
 | nil=>rfl
 | cons x l a =>
  simp only[BT]at h;simp only[Fl,AE6];split at h
  .cases h
  grind
theorem iU {o:List Int} {n:Int} (hn:n∉o):Fl T3 T3 n (o.length:Int) (lG o)=lG (o++[n]):=by grind [A0M,SU,iT]
theorem yE (o:List Int) (x:Int):(BT T3 T3 x (lG o)).getD 0=Bv o x:=by grind [SU,Bv]
theorem LG (o:List Int) (x:Int):(BT T3 T3 x (lG o)).isSome=decide (x∈o):=by
 rw[SU];split<;>simp[*]
section
variable {α:Type}
structure SO (o:α->α->Int):Prop where
 anti:∀a b,o b a=- o a b
 trans:∀ {a b c},o a b<0->o b c<0->o a c<0
variable {o:α->α->Int} {d:α}
def CR (d:α) (l:List α) (i j:Nat):List α:=(l.set i (l.getD j d)).set j (l.getD i d)
theorem Ib {l:List α} {i j:Nat} (hi:i<l.length) (a:j<l.length) (k:Nat):(CR d l i j).getD k d=if k=j then l.getD i d else if k=i then l.getD j d else l.getD k d:=by
 unfold CR;simp only[AS,ADt,aT];by_cases e1:j=k
 .rw[BY e1,BY (by omega),BY e1.symm];rfl
 rw[As e1,As (show ¬k=j by omega)];by_cases e2:i=k
 .rw[BY e2,BY (by omega),BY e2.symm];rfl
 rw[As e2,As (show ¬k=i by omega)]
theorem A0N {l:List α} {i j:Nat} (hi:i<l.length) (a:j<l.length):(CR d l i j).Perm l:=by
 have e1:l.getD i d=l[i]:=by rw[AS,AT hi];rfl
 have e2:l.getD j d=l[j]:=by rw[AS,AT a];rfl
 unfold CR;rw[e1,e2];exact List.set_set_perm hi a
structure EC (d:α) (a b:Nat) (l r:List α):Prop where
 perm:r.Perm l
 out:∀k,k<a\/b<=k->r.getD k d=l.getD k d
 inn:∀i,a<=i->i<b->∃j,a<=j/\j<b/\r.getD i d=l.getD j d
theorem EC.len {a b:Nat} {l r:List α} (h:EC d a b l r):r.length=l.length:=h.perm.length_eq
theorem EC.refl (a b:Nat) (l:List α):EC d a b l l:=⟨List.Perm.refl _,λ_ _=>rfl,λi h1 c=>⟨i,h1,c,rfl⟩⟩
theorem EC.trans {a b:Nat} {l r s:List α} (h:EC d a b l r) (c:EC d a b r s):EC d a b l s:=⟨c.perm.trans h.perm,λk hk=>(c.out k hk).trans (h.out k hk),λi h1 f=>by
 obtain⟨j,g,m,e⟩:=c.inn i h1 f;obtain⟨k,n,o,e2⟩:=h.inn j g m;exact⟨k,n,o,e.trans e2⟩⟩
theorem EC.mono {a b c b':Nat} {l r:List α} (h:EC d a b l r) (ha:c<=a) (g:b<=b'):EC d c b' l r:=⟨h.perm,λk hk=>h.out k (by omega),λi h1 f=>by
 by_cases hi:a<=i/\i<b
 .obtain⟨j,m,n,e⟩:=h.inn i hi.1 hi.2;exact⟨j,by omega,by omega,e⟩
 exact⟨i,h1,f,h.out i (by omega)⟩⟩
theorem EC.swap {a b:Nat} (l:List α) {i j:Nat} (e:a<=i) (f:i<b) (g:a<=j) (h:j<b) (o:b<=l.length):EC d a b l (CR d l i j):=by
 have c:=Ib (d:=d) (l:=l) (i:=i) (j:=j) (by omega) (by omega);refine⟨A0N (by omega) (by omega),λk hk=>?_,λk m n=>?_⟩
 .rw[c k,As (by omega),As (by omega)]
 rw[c k];by_cases e1:k=j
 .rw[BY e1];exact⟨i,e,f,rfl⟩
 rw[As e1];by_cases e2:k=i
 .rw[BY e2];exact⟨j,g,h,rfl⟩
 rw[As e2];exact⟨k,m,n,rfl⟩
def lH (o:α->α->Int) (d:α) (l:List α):Prop:=∀i j,i<l.length->j<l.length->i≠j->o (l.getD i d) (l.getD j d)≠0
theorem yF (g:SO o) (l:List α):lH o d l↔l.Pairwise λa b=>o a b≠0:=by
 have e:∀i (h:i<l.length),l.getD i d=l[i]:=λi h=>by rw[AS,AT h];rfl
 rw[RR];constructor
 .intro h i j hi c f;have:=h i j hi c (by omega)
  rwa [e i hi,e j c]at this
 intro h i j hi c f;rw[e i hi,e j c];rcases Nat.lt_or_gt_of_ne f with h1|h1
 .exact h i j hi c h1
 have k:=h j i c hi h1;rw[g.anti];omega
theorem lH.perm (c:SO o) {l r:List α} (h:lH o d l) (hp:r.Perm l):lH o d r:=by
 rw[yF c]at h ⊢;refine(hp.symm.pairwise_iff ?_).1 h;intro a b e;rw[c.anti];omega
theorem lH.lt (c:SO o) {l:List α} (h:lH o d l) {i j:Nat} (hi:i<l.length) (b:j<l.length) (a:i≠j) (hn:¬o (l.getD i d) (l.getD j d)<0):o (l.getD j d) (l.getD i d)<0:=by
 have h1:=h i j hi b a;rw[c.anti];omega
def SV (o:α->α->Int) (d:α) (a b:Nat) (l:List α):Prop:=∀i j,a<=i->i<j->j<b->o (l.getD i d) (l.getD j d)<0
theorem cD (a:Nat) (l:List α):SV o d a (a+1) l:=λi j h1 b c=>by omega
theorem A3L (f:SO o) {a b:Nat} {l:List α} (h:SV o d a b l) (k:a<b) (hl:o (l.getD (b-1) d) (l.getD b d)<0):SV o d a (b+1) l:=by
 intro i j h1 c g;by_cases e:j=b
 .subst e;by_cases hi:i=j-1
  .rw[hi];exact hl
  exact f.trans (h i (j-1) h1 (by omega) (by omega)) hl
 exact h i j h1 c (by omega)
theorem NT {a b:Nat} {l r:List α} (h:SV o d a b l) (e:∀k,a<=k->k<b->r.getD k d=l.getD k d):SV o d a b r:=λi j h1 f c=>by
 rw[e i h1 (by omega),e j (by omega) c];exact h i j h1 f c
def oM (o:α->α->Int) (d:α) (a i j:Nat) (m:List α):Prop:=(∀x y,a<=x->x<y->y<=i->x≠j->y≠j->o (m.getD x d) (m.getD y d)<0)/\∀y,j<y->y<=i->o (m.getD j d) (m.getD y d)<0
theorem oO {a i:Nat} {m:List α} (h:SV o d a i m):oM o d a i i m:=⟨λx y h0 h1 b c e=>h x y h0 h1 (by omega),λy h1 b=>by omega⟩
theorem XB (e:SO o) {a i j:Nat} {m:List α} (h:oM o d a i j m) (g:a<=j) (k:j<=i) (b:j=a\/o (m.getD (j-1) d) (m.getD j d)<0):SV o d a (i+1) m:=by
 intro x y h0 h1 f;by_cases e1:x=j
 .subst e1;exact h.2 y h1 (by omega)
 by_cases e2:y=j
 .subst e2;rcases b with b|b
  .omega
  by_cases c:x=y-1
  .subst c;exact b
  exact e.trans (h.1 x (y-1) h0 (by omega) (by omega) e1 (by omega)) b
 exact h.1 x y h0 h1 (by omega) e1 e2
theorem ZR {a i j:Nat} {m:List α} (h:oM o d a i j m) (h0:a<j) (k:j<=i) (hi:i<m.length) (g:o (m.getD j d) (m.getD (j-1) d)<0):oM o d a i (j-1) (CR d m j (j-1)):=by
 have c:=Ib (d:=d) (l:=m) (i:=j) (j:=j-1) (by omega) (by omega);refine⟨λx y hx h1 b e f=>?_,λy h1 b=>?_⟩
 .rw[c x,c y,As e,As f];by_cases e1:x=j
  .subst e1;rw[BY rfl,As (by omega)];exact h.1 (x-1) y (by omega) (by omega) b (by omega) (by omega)
  rw[As e1];by_cases e2:y=j
  .rw[BY e2];exact h.1 x (j-1) hx (by omega) (by omega) e1 (by omega)
  rw[As e2];exact h.1 x y hx h1 b e1 e2
 rw[c (j-1),c y,BY rfl,As (by omega)];by_cases e2:y=j
 .rw[BY e2];exact g
 rw[As e2];exact h.2 y (by omega) b
def Hp (o:α->α->Int) (d:α) (f hi lo:Nat) (m:List α):Prop:=∀k c,lo<=k->(c=2*k+1\/c=2*k+2)->c<hi->o (m.getD (f+c) d) (m.getD (f+k) d)<0
structure HpX (o:α->α->Int) (d:α) (f hi lo root:Nat) (m:List α):Prop where
 le:lo<=root
 hp:∀k c,lo<=k->k≠root->(c=2*k+1\/c=2*k+2)->c<hi->o (m.getD (f+c) d) (m.getD (f+k) d)<0
 up:∀p c,lo<=p->(root=2*p+1\/root=2*p+2)->(c=2*root+1\/c=2*root+2)->c<hi->o (m.getD (f+c) d) (m.getD (f+p) d)<0
theorem A0O {f hi lo:Nat} {m:List α} (h:Hp o d f hi (lo+1) m):HpX o d f hi lo lo m:=⟨If _,λk c h1 a b e=>h k c (by omega) b e,λp c h1 a=>by omega⟩
theorem A3M {f hi lo root:Nat} {m:List α} (h:HpX o d f hi lo root m) (hl:hi<=2*root+1):Hp o d f hi lo m:=λk c h1 a b=>h.hp k c h1 (by omega) a b
theorem iV (i:SO o) {f hi lo root ch:Nat} {m:List α} (h:HpX o d f hi lo root m) (j:ch=2*root+1\/ch=2*root+2) (g:o (m.getD (f+ch) d) (m.getD (f+root) d)<0)
  (hs:∀c,(c=2*root+1\/c=2*root+2)->c<hi->c≠ch->o (m.getD (f+c) d) (m.getD (f+ch) d)<0):Hp o d f hi lo m:=λk c h1 a b=>by
 by_cases hk:k=root
 .subst hk;by_cases e:c=ch
  .rw[e];exact g
  exact i.trans (hs c a b e) g
 exact h.hp k c h1 hk a b
theorem iW {f hi lo root ch:Nat} {m:List α} (h:HpX o d f hi lo root m) (r:ch<hi) (hf:f+hi<=m.length) (n:ch=2*root+1\/ch=2*root+2) (t:o (m.getD (f+root) d) (m.getD (f+ch) d)<0)
  (hs:∀c,(c=2*root+1\/c=2*root+2)->c<hi->c≠ch->o (m.getD (f+c) d) (m.getD (f+ch) d)<0):HpX o d f hi lo ch (CR d m (f+root) (f+ch)):=by
 have e:=Ib (d:=d) (l:=m) (i:=f+root) (j:=f+ch) (by omega) (by omega);have u:=h.le;refine⟨by omega,λk c h1 g a b=>?_,λp c h1 g a b=>?_⟩
 .rw[e,e];by_cases hk:k=root
  .subst hk;rw[As (show ¬f+k=f+ch by omega),BY rfl];by_cases q:c=ch
   .rw[BY (by omega)];exact t
   rw[As (by omega),As (by omega)];exact hs c a b q
  rw[As (show ¬f+k=f+ch by omega),As (show ¬f+k=f+root by omega)];by_cases s:c=root
  .subst s;rw[As (by omega),BY rfl];exact h.up k ch h1 a n r
  rw[As (by omega),As (by omega)];exact h.hp k c h1 hk a b
 have hp:p=root:=by omega
 subst hp;rw[e,e,As (by omega),As (by omega),As (by omega),BY rfl];exact h.hp ch c (by omega) (by omega) a b
theorem iX (b:SO o) {f hi:Nat} {m:List α} (h:Hp o d f hi 0 m):∀(n k:Nat),k<=n->0<k->k<hi->o (m.getD (f+k) d) (m.getD f d)<0
 | 0,k,h1,c,_=>by omega
 | n+1,k,h1,c,e=>by
  have a:=h ((k-1) / 2) k (by omega) (by omega) e;by_cases g:(k-1) / 2=0
  .rw[g]at a;exact a
  exact b.trans a (iX b h n ((k-1) / 2) (by omega) (by omega) (by omega))
structure A0P (o:α->α->Int) (d:α) (f n i:Nat) (m:List α):Prop where
 heap:Hp o d f i 0 m
 srt:SV o d (f+i) (f+n) m
 big:∀x y,x<i->i<=y->y<n->o (m.getD (f+x) d) (m.getD (f+y) d)<0
theorem oP {f n:Nat} {m:List α} (h:Hp o d f n 0 m):A0P o d f n n m:=⟨h,λi j h1 a b=>by omega,λx y h1 a b=>by omega⟩
theorem A0Q (s:SO o) {f n i:Nat} {m:List α} (h:A0P o d f n (i+1) m) (hi:i<n) (hl:f+n<=m.length) :
  HpX o d f i 0 0 (CR d m f (f+i))/\SV o d (f+i) (f+n) (CR d m f (f+i))/\∀x y,x<i->i<=y->y<n->o ((CR d m f (f+i)).getD (f+x) d) ((CR d m f (f+i)).getD (f+y) d)<0:=by
 have a:=Ib (d:=d) (l:=m) (i:=f) (j:=f+i) (by omega) (by omega);have g:=iX s h.heap i;refine⟨⟨If _,λk c h1 e b t=>?_,λp c h1 e=>by omega⟩,λx y h1 e b=>?_,λx y h1 e b=>?_⟩
 .rw[a,a,As (by omega),As (by omega),As (by omega),As (by omega)];exact h.heap k c h1 b (by omega)
 .rw[a,a,As (show ¬y=f+i by omega),As (show ¬y=f by omega)];by_cases hx:x=f+i
  .rw[BY hx];have:=h.big 0 (y-f) (by omega) (by omega) (by omega)
   rwa [show f+0=f by omega,show f+(y-f)=y by omega]at this
  rw[As hx,As (by omega)];exact h.srt x y (by omega) e b
 have key:∀z,z<i+1->i+1<=y->o (m.getD (f+z) d) (m.getD (f+y) d)<0:=λz r q=>h.big z y r q b;rw[a,a,As (show ¬f+x=f+i by omega)];by_cases q:y=i
 .rw[BY (show f+y=f+i by omega)];by_cases hx:x=0
  .rw[BY (show f+x=f by omega)];exact g i (by omega) (by omega) (by omega)
  rw[As (show ¬f+x=f by omega)];exact g x (by omega) (by omega) (by omega)
 rw[As (show ¬f+y=f+i by omega),As (show ¬f+y=f by omega)];by_cases hx:x=0
 .rw[BY (show f+x=f by omega)];exact key i (by omega) (by omega)
 rw[As (show ¬f+x=f by omega)];exact key x (by omega) (by omega)
theorem A0R {f n i:Nat} {m r:List α} (hp:EC d f (f+i) m r) (hh:Hp o d f i 0 r) (hs:SV o d (f+i) (f+n) m) (c:∀x y,x<i->i<=y->y<n->o (m.getD (f+x) d) (m.getD (f+y) d)<0):A0P o d f n i r :=
 ⟨hh,NT hs λk h1 a=>hp.out k (by omega),λx y h1 a b=>by
  rw[hp.out (f+y) (by omega)];obtain⟨j,g,h,e⟩:=hp.inn (f+x) (by omega) (by omega);rw[e];have:=c (j-f) y (by omega) a b
  rwa [show f+(j-f)=j by omega]at this⟩
theorem A3N {f n:Nat} {m:List α} (h:A0P o d f n 0 m):SV o d f (f+n) m:=h.srt
structure PtI (o:α->α->Int) (d:α) (a b i j:Nat) (m:List α):Prop where
 lo:∀x,a<x->x<i->o (m.getD x d) (m.getD a d)<0
 hi:∀x,j<x->x<b->o (m.getD a d) (m.getD x d)<0
theorem iY {a b i j:Nat} {m:List α} (h:PtI o d a b i j m) (n:a<i) (q:i<j) (r:j<b) (p:b<=m.length) (h1:o (m.getD a d) (m.getD i d)<0) (k:o (m.getD j d) (m.getD a d)<0):PtI o d a b (i+1) (j-1) (CR d m i j):=by
 have c:=Ib (d:=d) (l:=m) (i:=i) (j:=j) (by omega) (by omega);refine⟨λx f g=>?_,λx f g=>?_⟩
 .rw[c x,c a,As (show ¬x=j by omega),As (show ¬a=j by omega),As (show ¬a=i by omega)];by_cases e:x=i
  .rw[BY e];exact k
  rw[As e];exact h.lo x f (by omega)
 rw[c x,c a,As (show ¬a=j by omega),As (show ¬a=i by omega)];by_cases e:x=j
 .rw[BY e];exact h1
 rw[As e,As (by omega)];exact h.hi x (by omega) g
structure PtE (o:α->α->Int) (d:α) (a b p:Nat) (m:List α):Prop where
 l:a<=p
 r:p<b
 lo:∀x,a<=x->x<p->o (m.getD x d) (m.getD p d)<0
 hi:∀x,p<x->x<b->o (m.getD p d) (m.getD x d)<0
theorem yG {a b j:Nat} {m:List α} (h:PtI o d a b (j+1) j m) (g:a<=j) (k:j<b) (p:b<=m.length):PtE o d a b j (CR d m j a):=by
 have c:=Ib (d:=d) (l:=m) (i:=j) (j:=a) (by omega) (by omega);refine⟨g,k,λx n f=>?_,λx n f=>?_⟩
 .rw[c x,c j,As (show ¬j=a by omega),BY rfl];by_cases e:x=a
  .rw[BY e];exact h.lo j (by omega) (by omega)
  rw[As e,As (by omega)];exact h.lo x (by omega) (by omega)
 rw[c x,c j,As (show ¬x=a by omega),As (show ¬x=j by omega)];by_cases e:j=a
 .rw[BY e];rw[e];exact h.hi x (by omega) f
 rw[As e,BY rfl];exact h.hi x (by omega) f
structure Cut (o:α->α->Int) (d:α) (a0 b0 a b:Nat) (m:List α):Prop where
 s1:SV o d a0 a m
 s2:SV o d b b0 m
 c1:∀x y,a0<=x->x<a->a<=y->y<b0->o (m.getD x d) (m.getD y d)<0
 c2:∀x y,a0<=x->x<b->b<=y->y<b0->o (m.getD x d) (m.getD y d)<0
 ab:a0<=a/\a<=b/\b<=b0
theorem A0T {a b:Nat} (g:a<=b) (m:List α):Cut o d a b a b m:=⟨λi j h1 c e=>by omega,λi j h1 c e=>by omega,λx y h1 c=>by omega,λx y h1 c e f=>by omega,by omega⟩
theorem Cut.pin {l n a b:Nat} {m r:List α} (h:Cut o d l n a b m) (hp:EC d a b m r):Cut o d l n a b r:=by
 obtain⟨w,B,A⟩:=h.ab;have key:∀(P:α->Prop) (lo hi:Nat),lo<=a->b<=hi->(∀y,lo<=y->y<hi->P (m.getD y d))->∀y,lo<=y->y<hi->P (r.getD y d):=λP lo hi h1 p q y c f=>by
  obtain⟨j,s,t,e⟩:=(hp.mono h1 p).inn y c f;rw[e];exact q j s t
 refine⟨NT h.s1 λk u v=>hp.out k (by omega),NT h.s2 λk u v=>hp.out k (by omega),λx y g i c f=>?_,λx y g i c f=>?_,h.ab⟩
 .rw[hp.out x (by omega)];exact key (λz=>o (m.getD x d) z<0) a n (If _) A (λy c f=>h.c1 x y g i c f) y c f
 rw[hp.out y (by omega)];exact key (λz=>o z (m.getD y d)<0) l b w (If _) (λx g i=>h.c2 x y g i c f) x g i
theorem Cut.done {g k a b:Nat} {m:List α} (h:Cut o d g k a b m) (hs:SV o d a b m):SV o d g k m:=by
 obtain⟨n,p,q⟩:=h.ab;intro i j h1 c e;by_cases hi:i<a
 .by_cases f:j<a
  .exact h.s1 i j h1 c f
  exact h.c1 i j h1 hi (by omega) e
 by_cases f:j<b
 .exact hs i j (by omega) c f
 by_cases l:i<b
 .exact h.c2 i j h1 l (by omega) e
 exact h.s2 i j (by omega) c e
theorem Cut.left (t:SO o) {e f a b p:Nat} {m:List α} (h:Cut o d e f a b m) (hp:PtE o d a b p m) (hs:SV o d a p m):Cut o d e f (p+1) b m:=by
 obtain⟨w,z,A⟩:=h.ab;have hl:=hp.l;have v:=hp.r;refine⟨λi j h1 g u=>?_,h.s2,λx y n B C q=>?_,h.c2,by omega⟩
 .by_cases hi:i<a
  .by_cases c:j<a
   .exact h.s1 i j h1 g c
   exact h.c1 i j h1 hi (by omega) (by omega)
  by_cases c:j=p
  .rw[c];exact hp.lo i (by omega) (by omega)
  exact hs i j (by omega) g (by omega)
 by_cases hx:x<a
 .exact h.c1 x y n hx (by omega) q
 by_cases k:y<b
 .by_cases s:x=p
  .rw[s];exact hp.hi y (by omega) k
  exact t.trans (hp.lo x (by omega) (by omega)) (hp.hi y (by omega) k)
 exact h.c2 x y n (by omega) (by omega) q
theorem Cut.right (w:SO o) {g k a b p:Nat} {m:List α} (h:Cut o d g k a b m) (hp:PtE o d a b p m) (hs:SV o d (p+1) b m):Cut o d g k a p m:=by
 obtain⟨A,B,C⟩:=h.ab;have hl:=hp.l;have z:=hp.r;refine⟨h.s1,λi j h1 n q=>?_,λx y c e t f=>h.c1 x y c e t f,λx y c e t f=>?_,by omega⟩
 .by_cases s:j<b
  .by_cases hi:i=p
   .rw[hi];exact hp.hi j (by omega) s
   exact hs i j (by omega) n s
  by_cases u:i<b
  .exact h.c2 i j (by omega) u (by omega) q
  exact h.s2 i j (by omega) n q
 by_cases v:y<b
 .by_cases hx:x<a
  .exact h.c1 x y c hx (by omega) f
  by_cases hyp:y=p
  .rw[hyp];exact hp.lo x (by omega) e
  exact w.trans (hp.lo x (by omega) e) (hp.hi y (by omega) v)
 exact h.c2 x y c (by omega) (by omega) f
theorem PtE.pinL {a b p:Nat} {m r:List α} (h:PtE o d a b p m) (hp:EC d a p m r):PtE o d a b p r:=by
 have hl:=h.l;have g:=h.r;refine⟨hl,g,λx c f=>?_,λx c f=>?_⟩
 .rw[hp.out p (by omega)];obtain⟨j,i,k,e⟩:=hp.inn x c f;rw[e];exact h.lo j i k
 rw[hp.out p (by omega),hp.out x (by omega)];exact h.hi x c f
theorem PtE.pinR {a b p:Nat} {m r:List α} (h:PtE o d a b p m) (hp:EC d (p+1) b m r):PtE o d a b p r:=by
 have hl:=h.l;have g:=h.r;refine⟨hl,g,λx f c=>?_,λx f c=>?_⟩
 .rw[hp.out p (by omega),hp.out x (by omega)];exact h.lo x f c
 rw[hp.out p (by omega)];obtain⟨j,k,i,e⟩:=hp.inn x (by omega) c;rw[e];exact h.hi j (by omega) i
def Bf (o:α->α->Int) (d:α) (a b:Nat) (m:List α):Prop:=a=0\/∀y,a<=y->y<b->o (m.getD (a-1) d) (m.getD y d)<0
theorem Bf.pin {a b:Nat} {m r:List α} (h:Bf o d a b m) (hp:EC d a b m r):Bf o d a b r:=by
 rcases h with h|h
 .exact .inl h
 by_cases h0:a=0
 .exact .inl h0
 right;intro y g i;rw[hp.out (a-1) (by omega)];obtain⟨j,c,f,e⟩:=hp.inn y g i;rw[e];exact h j c f
theorem Bf.sub {a b b':Nat} {m:List α} (h:Bf o d a b m) (e:b'<=b):Bf o d a b' m:=h.imp id λh y c f=>h y c (by omega)
theorem PtE.bf {a b p:Nat} {m:List α} (h:PtE o d a b p m):Bf o d (p+1) b m:=.inr λy e c=>by
 rw[show p+1-1=p by omega];exact h.hi y (by omega) c
end
end Go.Proofs.YtapkhdkbkodbjaaGreat.Fw
