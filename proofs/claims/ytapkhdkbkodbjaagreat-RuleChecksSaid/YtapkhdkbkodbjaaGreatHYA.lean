/- Contracts of the program's and the reference's functions, and the plain laws of what they compute: C1 C2 C9 C10 C11 C12 C13 C3 C4 C5 C6 C7 C8 C14 C15 C16 C17 C18 C19 C20 C21 C22 C23 N1 N2 C24 C25 N3 C26 C27 C28 C29 N4 C30 C31 C32 C33 C34 C35 R07a R07b R07c. -/
import Derived.Test.YtapkhdkbkodbjaaGreatHZJ
set_option linter.unusedVariables false
set_option linter.unusedSimpArgs false
namespace Go.Proofs.YtapkhdkbkodbjaaGreat.Fw
open Go
attribute [local irreducible] Ev
attribute [local go_sem] YY AM List.toList_toArray Bq evG evK VA Ef Jj Fs E7 II Pi L2 DA Cp Kj B3 Cq frz d7 GV DE A6 Fa Bd AV.frz AV.frzs AV.drp AV.drps AV.names AV.namess aq GW J4 Ja RP H7 BX Be Iz EZ Hf Ea Hh Hg Hi Tr Np GX I0 Fc Dx Ts Pd qUn I8 IA Kd FJ Df IB Jc EE RQ DJ EF Eq Pe IC Lz FP Ly Nq Pf LS ID Jd EH Dg Gt Di HN DK Er DL EI Y1 B3 Cg PX Pa Lx F6 H9 H8 Jb Nt Pg L1 Ki Kg Jg Ph Kh Jh X6 Nv Nu AV.trn AV.trns Eo C0 Obj.trn JJ bF Dh EK Dy EJ CU Es Ao lk Gn GP HK bin d6 Uz d9 Pc uN uP pfs AV.cells CD Ix OQ Jf Ns CT Lv Ty.cell1 He Ep De F5 Kb E5 J0 LR PZ Em Gr Lu RN Tp Ln Jz X3 aC Pb Lw Co Iy RV.flat Ty.flat Ty.size St.add upd del Bj Value.oneCell' KZ Ty.dflt Hd NE Gx NK List.take_succ_cons List.take_zero List.length_cons Yf Yg NJ IQ KD Gb Hz yF E8 Kr Ks Kt Ku Od Oe Kv Hn Rc Option.map_some Option.map_none Option.bind_some Option.getD_some Option.getD_none Option.isNone_none Option.isNone_some Bool.and_true Bool.true_and Bool.and_false Bool.false_and Bool.not_true Bool.not_false if_true if_false List.length_cons List.length_nil and_true true_and and_self List.all_cons List.all_nil List.append_nil List.nil_append List.cons_append List.getElem?_cons_zero List.getElem?_cons_succ List.getElem?_nil List.map_cons List.map_nil List.set_cons_zero List.set_cons_succ List.isEmpty_nil List.isEmpty_cons decide_true decide_false beq_self_eq_true bne_self_eq_false Nat.zero_add Nat.add_zero Nat.sub_zero Int.toNat_natCast Int.toNat_zero Int.toNat_one List.take_length List.length_append List.length_singleton true_or or_true or_self false_or or_false Ty.agg.injEq Ty.slice.injEq Ty.prod.injEq Ty.int.injEq Option.some.injEq beq_iff_eq La evMG evMQ opM HR LZ B2 JD Gy Nz JC HQ Ho JE KB MD MF ME Rd KA NG NH Hy Aa Aj Op.operands Call.operands List.filterMap_cons List.filterMap_nil List.append_eq Bool.cond_false_right Bool.cond_true_left cond_true cond_false implies_true decide_eq_true_eq beq_true beq_false Bool.or_true Bool.or_false Bool.true_or Bool.false_or Option.isSome_some Array.empty_append List.append_toArray Fb Kk Et HZ X5 Nr FQ Fl Fk IE HL Je Ke U0 d8 Hv inB Ji FY F7 IG Am Yh List.drop_zero DU Ha YA CL Jr CJ AV.fgt AV.fgts Obj.fgt Av Ah Aa Cs IR BK GB List.any_cons List.any_nil pX bB YB bC Lo QC qs List.flatMap_cons List.flatMap_nil List.cons_append tn YC JK List.take_succ_cons List.drop_succ_cons YD Gd BT fV KF B4 CM Ae Ey Jp Bk Ex Dj HO Hm GA HP
attribute [local go_sem] ty1 ty2 ty3 ty4 ty5 ty9 A22 A23 A24 A25 A26 A27 A28 A29 A2a A2b A2c A2d A2e A2f A2g A2h A2i A2j A2k A2l A2m A2n A2o A2p A2q A2r A2s A2t A2u A2v A2w A2x A2y A2z A2A A2B A2C A2D A2E A2F A2G A2H A2I A2J A2K A2L A2M A2N A2O A2P A2Q A2R A2S A2T A2U A2V A2W A2X A2Y A2Z A30 A31 A32 A33 A34 A35 A36 A37 A38 A39 A3a f5 f6 f7 f8 f9 gB gC gD gE gF gG gH gI gJ gK gL gM gN gP gQ gR gS gT gU gV gW gX gY gZ g9 hC hH hZ iA iB iC iD iE iG iH iI iJ iK iL iM iO iP iQ iR iT iU iV iW iX iY iZ i3 i4 i5 i6 i7 i8 i9 jA jB jC jD jE jF jG jH jI jJ jK jL jM jN jO jP jQ jR jS jT jU jV jW jX jY jZ j5 j6 j7 j8 j9 kA kB kC kD kE kF kG kH kI kJ kK kL kM kN kO kP kQ kR kS kT kU kV kW kX kY kZ k5 k6 k7 k8 k9 lA lB lC lD lE lF lG lH lI lJ lK lL lM lN lO lQ lS lU lV lW lX lY lZ l3 l4 l7 l8 l9 mA mB mC mD mE mF mG mH mI mJ mK mL mM
set_option maxRecDepth 100000
set_option maxHeartbeats 4000000
section
def Jt (a b c:Int):Bool:=decide (a<=c)&&decide (c<=b)
def rB:Ac:={ ins:=[.int .u8],pre:=λ_=>True,out:=λ(c,_)=>[.p .bool (Jt 48 57 c)] }
attribute [local go_sem] rB
def rD:Ac:={ ins:=[.int .u8],pre:=λ_=>True,out:=λ(c,_)=>[.p .bool (Jt 65 90 c)] }
attribute [local go_sem] rD
def rE:Ac:={ ins:=[.int .u8],pre:=λ_=>True,out:=λ(c,_)=>[.p .bool (Jt 97 122 c)] }
attribute [local go_sem] rE
theorem mR:Ad Tryz.prog 242 rB:=by
 refine fK [0,2] Tryz.func242 Tryz.ntmps242 AG ?_;rintro w0 O0 ⟨c,u⟩ a - -;simp only[rB,AM];repeat'(first|exact trivial|refine eS rfl ?_|refine rX a ?_ ?_)
 exact fI a [.tmp 2] (by unfold Jt;exact eR)
theorem A3g:Ad Tryz.prog 249 rD:=by
 refine fK [0,2] Tryz.func249 Tryz.ntmps249 AG ?_;rintro w0 O0 ⟨c,u⟩ a - -;simp only[rD,AM];repeat'(first|exact trivial|refine eS rfl ?_|refine rX a ?_ ?_)
 exact fI a [.tmp 2] (by unfold Jt;exact eR)
theorem A3h:Ad Tryz.prog 250 rE:=by
 refine fK [0,2] Tryz.func250 Tryz.ntmps250 AG ?_;rintro w0 O0 ⟨c,u⟩ a - -;simp only[rE,AM];repeat'(first|exact trivial|refine eS rfl ?_|refine rX a ?_ ?_)
 exact fI a [.tmp 2] (by unfold Jt;exact eR)
def Vt (c:Int) (big:Bool):Bool:=Jt 48 57 c||c==45||big&&Jt 65 90 c||!big&&Jt 97 122 c
def A3i:Ac:={ ins:=[.int .u8,.bool],pre:=λ_=>True,out:=λ(c,b,_)=>[.p .bool (Vt c b)] }
attribute [local go_sem] A3i
theorem A6f:Ad Tryz.prog 243 A3i:=by
 refine fK [0,1,4] Tryz.func243 Tryz.ntmps243 (AF mR (AF A3g (AF A3h AG))) ?_;rintro w0 O0 ⟨c,b,u⟩ a - -;simp only[A3i,AM];repeat'(first|exact trivial|refine eS rfl ?_|refine rX a ?_ ?_)
 exact fI a [.tmp 4] (by unfold Vt;exact eR)
abbrev chr (s:ByteArray) (i:Nat):Int:=((s.data.getD i 0).toNat:Int)
def Rn (s:ByteArray):Bool:=decide ((s.size:Int)<1)||decide (32<(s.size:Int))||Jt 48 57 (chr s 0)||chr s 0==45
def Ez (s:ByteArray) (big:Bool):Bool:=!Rn s&&(List.range s.size).all λi=>Vt (chr s i) big
def rF:Ac:={ ins:=[T9,.bool],pre:=λ_=>True,out:=λ(s,b,_)=>[.p .bool (Ez s b)] }
attribute [local go_sem] rF
theorem mS:Ad Tryz.prog 231 rF:=by
 refine fK [0,1,4,5,23,27,35] Tryz.func231 Tryz.ntmps231 (AF mR (AF A6f AG)) ?_;rintro w0 O0 ⟨s,b,u⟩ d - -;simp only[rF,AM];repeat'(first|exact trivial|refine eS rfl ?_|refine rX d ?_ ?_|refine rC ?_ ?_<;>intro a<;>try(cases a;done))
 ·constructor
  ·intro h;simp only[SZ,iF,Of]at h;have:1<=(s.size:Int):=by omega
   exact this
  ·intro h;simp only[SZ,iF,Of]at h;have:1<=(s.size:Int):=by omega
   exact this
 ·have h1:Rn s=true:=by
   unfold Rn chr;simp only[Su,Fj,UH];exact a
  have c:Ez s b=false:=by unfold Ez;rw[h1];rfl
  exact fI d [.tmp 4] (by rw[c];exact eR)
 ·have h1:Rn s=false:=by
   unfold Rn chr;simp only[iF,Of,AD5];exact⟨⟨⟨by omega,by omega⟩,a.1.2⟩,a.2⟩
  have g:s.size<=32:=by omega
  refine AK (ι:={k:Nat//k<=s.size/\((List.range k).all λi=>Vt (chr s i) b)=true}) (λk=>⟨[(0,.p T9 s),(1,.p .bool b),(5,.p (.int .i64) (k.1:Int))],[]⟩) (λk=>s.size-k.1) ⟨0,by simp⟩ (eW []) (λk=>?_)
  ·obtain⟨k,hk,f⟩:=k;repeat'(first|exact trivial|refine eS rfl ?_|refine AB ?_|refine rX d ?_ ?_|refine rC ?_ ?_<;>intro a<;>try(cases a;done))
   ·exact a
   ·have e:k<s.size:=by omega
    have c:Ez s b=false:=by
     unfold Ez;rw[ACT];refine .inr (ADE.2 λh=>?_);have:=IS.1 h k (Sl.2 e);rw[show Vt (chr s k) b=false from a]at this;cases this
    exact fI d [.tmp 4] (by rw[c];exact eR)
   ·omega
   ·have e:k<s.size:=by omega
    refine⟨⟨k+1,by omega,?_⟩,by simp only;omega,AC [] rfl rfl ?_ ?_⟩
    ·rw[UJ,AE4,f];rw[AER,ADv,List.all_nil,Bool.and_true];exact a
    ·exact eN
    ·exact eN
   ·have e:k=s.size:=by omega
    subst e;have c:Ez s b=true:=by unfold Ez;rw[h1,f];rfl
    exact fI d [.tmp 4] (by rw[c];exact eR)
def A3j:Ac:={ ins:=[T9],pre:=λ_=>True,out:=λ(s,_)=>[.p .bool (Ez s false)] }
def Vu:Ac:={ ins:=[T9],pre:=λ_=>True,out:=λ(s,_)=>[.p .bool (Ez s true)] }
theorem A6g:Ad Tryz.prog 218 A3j:=by
 refine fK [0,2] Tryz.func218 Tryz.ntmps218 (AF mS AG) ?_;rintro w0 O0 ⟨s,u⟩ a - -;simp only[A3j,AM];repeat'(first|exact trivial|refine eS rfl ?_|refine rX a ?_ ?_)
 exact fI a [.tmp 2]
theorem rG:Ad Tryz.prog 217 Vu:=by
 refine fK [0,2] Tryz.func217 Tryz.ntmps217 (AF mS AG) ?_;rintro w0 O0 ⟨s,u⟩ a - -;simp only[Vu,AM];repeat'(first|exact trivial|refine eS rfl ?_|refine rX a ?_ ?_)
 exact fI a [.tmp 2]
end
section
theorem NP {α:Type} (l:List α) (d:α) (p:α->Bool) {k:Nat} (h:k<l.length):(l.take (k+1)).any p=((l.take k).any p||p (l.getD k d)):=by
 rw[A0 l d h,AE3];simp
theorem JL {α:Type} (l:List α) (d:α) (p:α->Bool) {k:Nat} (h:k<l.length) (hp:p (l.getD k d)=true):l.any p=true :=
 Sc.2 ⟨_,AE l d h,hp⟩
def AZ (l:List ByteArray) (s:ByteArray):Bool:=l.any λx=>AY x s
def Ju:Ac:={ ins:=[F4,T9],pre:=λ_=>True,out:=λ(l,n,_)=>[.p .bool (AZ l n)],lend:=true }
attribute [local go_sem] Ju
theorem G2:Ad Tryz.prog 201 Ju:=by
 refine fK [0,1,4,5,9,17] Tryz.func201 Tryz.ntmps201 AG ?_;rintro w0 O0 ⟨l,n,u⟩ a ⟨⟨e,-⟩,-⟩ -;simp only[AP]at e;simp only[Ju,AM];repeat'(first|exact trivial|refine eS rfl ?_|refine rX a ?_ ?_)
 refine AK (ι:={k:Nat//k<=l.length/\(l.take k).any (λx=>AY x n)=false}) (λk=>⟨[(0,.p F4 l),(1,.p T9 n),(5,.p (.int .i64) (k.1:Int))],[]⟩) (λk=>l.length-k.1) ⟨0,by simp⟩ (eW []) (λk=>?_)
 ·obtain⟨k,hk,c⟩:=k;repeat'(first|exact trivial|refine eS rfl ?_|refine AB ?_|refine rX a ?_ ?_|refine rC ?_ ?_<;>intro b<;>try(cases b;done))
  ·exact eV
  ·have d:k<l.length:=by exact eV
   have h1:AZ l n=true:=JL l ByteArray.empty _ d b;exact fI a [.tmp 4] (by rw[h1];exact eR)
  ·exact eV
  ·have d:k<l.length:=by exact eV
   refine⟨⟨k+1,by exact eV,?_⟩,by simp only;exact eV,AC [] rfl rfl ?_ ?_⟩
   ·rw[NP l ByteArray.empty _ d,c];exact b
   ·exact eN
   ·exact eN
  ·have hk:l.take k=l:=At (by exact eV);rw[hk]at c;have h1:AZ l n=false:=c;exact fI a [.tmp 4] (by rw[h1];exact eR)
def atF (l:List ByteArray) (s:ByteArray):Nat:=(l.takeWhile λx=>HY x s).length
theorem A3l {α:Type} (p:α->Bool) (d:α):∀(l:List α) (k:Nat),k<=(l.takeWhile p).length->((k<l.length/\p (l.getD k d)=true)↔k+1<=(l.takeWhile p).length)
 | [],k,h=>by simp
 | x :: l,k,h=>by
  by_cases a:p x=true
  ·rw[List.takeWhile_cons,BY a]at h ⊢;cases k with
   | zero=>simp[a]
   | succ k =>
    have:=A3l p d l k (by simpa using h);simpa using this
  ·rw[List.takeWhile_cons,An a]at h ⊢;have hk:k=0:=by simpa using h
   subst hk;simp[a]
theorem A7V {α:Type} (p:α->Bool) (l:List α):(l.takeWhile p).length<=l.length:=(List.takeWhile_sublist p).length_le
def Ec (l:List ByteArray) (s:ByteArray):List ByteArray :=
 if (decide (atF l s<l.length)&&AY (l.getD (atF l s) ByteArray.empty) s)=true then l else l.take (atF l s)++[s]++l.drop (atF l s)
def bK:Ac:={ ins:=[F4,T9],pre:=λ(l,_,_)=>List.length l<=100000,out:=λ(l,n,_)=>[.p F4 (Ec l n)] }
attribute [local go_sem] bK
theorem Ro:Ad Tryz.prog 194 bK:=by
 refine fK [0,1,4,5,6,18,32] Tryz.func194 Tryz.ntmps194 AG ?_;rintro w0 O0 ⟨l,n,u⟩ c-m;have m:l.length<=100000:=m;simp only[bK,AM];repeat'(first|exact trivial|refine eS rfl ?_|refine rX c ?_ ?_)
 refine AK (ι:={k:Nat//k<=atF l n}) (λk=>⟨[(0,.p F4 l),(1,.p T9 n),(5,.raw (.slice none 0 0)),(6,.p (.int .i64) (k.1:Int))],[]⟩) (λk=>l.length-k.1) ⟨0,by simp⟩ (eW []) (λk=>?_)
 ·obtain⟨k,hk⟩:=k;have d:=A7V (λx=>HY x n) l;have i:=A3l (λx=>HY x n) ByteArray.empty l k hk;simp only;repeat'(first|exact trivial|refine eS rfl ?_|refine AB ?_|refine rX c ?_ ?_|refine rC ?_ ?_<;>intro a<;>try(cases a;done))
  ·exact λh=>h
  ·have h1:k<l.length/\HY (l.getD k ByteArray.empty) n=true:=⟨by exact eV,a.2⟩;exact eV
  ·have h1:k<l.length/\HY (l.getD k ByteArray.empty) n=true:=⟨by exact eV,a.2⟩;exact⟨⟨k+1,i.1 h1⟩,by simp only;omega,eW []⟩
  ·exact λh=>h
  ·rename_i f;have g:k=atF l n:=by
    refine ADT hk (Nat.le_of_not_lt λh=>?_);have:=i.2 h;rw[f (If.2 this.1)]at this;cases this.2
   have e:Ec l n=l:=by
    unfold Ec;rw[<-g,BY];rw[AT,Fj];exact⟨If.1 a.1,a.2⟩
   exact fI c [.tmp 4] (by rw[e];exact eR)
  ·have j:=oN k l;have b:k<=l.length:=Sd hk d;simp only[AP];exact⟨Sb.2 b,by dsimp only[Ty.den]at *;omega⟩
  ·have j:=oN k l;have b:k<=l.length:=Sd hk d;simp only[AP];dsimp only[Ty.den]at *;omega
  ·have j:=oN k l;have b:k<=l.length:=Sd hk d;have q:(l.drop k).length<=l.length:=by rw[UI];omega
   simp only[AP];exact⟨Sb.2 b,by dsimp only[Ty.den]at *;omega⟩
  ·rename_i f;have g:k=atF l n:=by
    refine ADT hk (Nat.le_of_not_lt λh=>?_);have:=i.2 h;rw[f (If.2 this.1)]at this;cases this.2
   have e:Ec l n=l.take k++[n]++l.drop k:=by
    unfold Ec;rw[<-g,An];rw[AT,Fj];intro h;rw[a (If.2 h.1)]at h;cases h.2
   have b:k<=l.length:=Sd hk d;have o:(l.take k).length+1+(l.drop k).length=(l.take k++[n]++l.drop k).length:=by simp only[GO,SY]
   rw[o,<-e];refine F1 [38] ?_;exact fI c [.tmp 4]
end
section
def GQ (b:List Int) (i:Int):Int:=if i<b.length then b.getD i.toNat 0 else 0
def mT:Ac:={ ins:=[BU,T3],pre:=λ(_,i,_)=>(0:Int)<=i,out:=λ(b,i,_)=>[.p QH (GQ b i)],lend:=true }
attribute [local go_sem] mT
theorem vS:Ad Tryz.prog 154 mT:=by
 refine fK [0,1,4,8] Tryz.func154 Tryz.ntmps154 AG ?_;rintro w0 O0 ⟨b,i,u⟩ c-hi;simp only[mT,AM];repeat'(first|exact trivial|refine eS rfl ?_|refine rX c ?_ ?_|refine rC ?_ ?_<;>intro a<;>try(cases a;done))
 ·exact⟨hi,a⟩
 ·have h1:GQ b i=b.getD i.toNat 0:=by unfold GQ;rw[BY a]
  exact fI c [.tmp 4] (by rw[h1];exact eR)
 ·have h1:GQ b i=0:=by unfold GQ;rw[An (ACU.2 a)]
  exact fI c [.tmp 4] (by rw[h1];exact eR)
def Cf (b:List Int):Nat->Nat
 | 0=>0
 | n+1=>if b.getD n 0=0 then Cf b n else n+1
def BM (b:List Int):List Int:=b.take (Cf b b.length)
theorem Vv (b:List Int):∀n,Cf b n<=n
 | 0=>NO _
 | n+1=>by
  unfold Cf;split
  ·exact Nat.le_succ_of_le (Vv b n)
  ·exact NO _
def LA:Ac:={ ins:=[BU],pre:=λ(b,_)=>List.length b<=100000,out:=λ(b,_)=>[.p BU (BM b)] }
attribute [local go_sem] LA
theorem NQ:Ad Tryz.prog 155 LA:=by
 refine fK [0,2,3,15] Tryz.func155 Tryz.ntmps155 AG ?_;rintro w0 O0 ⟨b,u⟩ d-f;have f:b.length<=100000:=f;simp only[LA,AM];repeat'(first|exact trivial|refine eS rfl ?_|refine rX d ?_ ?_)
 refine AK (ι:={n:Nat//n<=b.length/\Cf b n=Cf b b.length}) (λn=>⟨[(0,.p BU b),(3,.p (.int .i64) (n.1:Int))],[]⟩) (λn=>n.1) ⟨b.length,NO _,rfl⟩ (eW []) (λn=>?_)
 ·obtain⟨n,hn,g⟩:=n;simp only;repeat'(first|refine eS rfl ?_|refine AB ?_|refine rX d ?_ ?_|refine rC ?_ ?_<;>intro c<;>try(cases c;done))
  ·constructor
   ·exact eV
   ·intro h;refine⟨?_,?_⟩<;>exact eV
  ·exact eV
  ·obtain⟨h1,a⟩:=c;obtain⟨m,rfl⟩:∃m,n=m+1:=⟨n-1,by omega⟩;have e:(((m+1:Nat):Int)-1)=(m:Int):=by omega
   rw[e]at a;have a:b.getD m 0=0:=a;have j:Cf b m=Cf b b.length:=by
    rw[<-g];show _=if b.getD m 0=0 then Cf b m else m+1
    rw[BY a]
   refine⟨⟨m,by omega,j⟩,by simp,AC [] rfl rfl ?_ ?_⟩
   ·exact eN
   ·simp only[e];exact eN
  ·have k:=oN n b;simp only[AP];exact⟨Sb.2 hn,by dsimp only[Ty.den]at *;omega⟩
  ·have i:Cf b n=n:=by
    cases n with
    | zero=>rfl
    | succ m =>
     have e:(((m+1:Nat):Int)-1)=(m:Int):=by omega
     rw[e]at c;have a:=c (by omega);have a:¬b.getD m 0=0:=a;show (if b.getD m 0=0 then Cf b m else m+1)=m+1;rw[An a]
   have h1:BM b=b.take n:=by unfold BM;rw[<-g,i]
   rw[<-h1];refine F1 [18] ?_;exact fI d [.tmp 2]
end
section
attribute [local go_sem] mT LA
def A3m (w:Int) (r:Int):Bool:=CA .and .u64 (X4 .u64 w r) 1==1
def Tz (b:List Int) (i:Int):Bool:=if (decide (i<0)||decide ((b.length:Int)<=i.tdiv 64))=true then false else A3m (b.getD (i.tdiv 64).toNat 0) (i.tmod 64)
def A3n:Ac:={ ins:=[BU,T3],pre:=λ_=>True,out:=λ(b,i,_)=>[.p .bool (Tz b i)],lend:=true }
theorem A8G {w:Int} (h0:0<=w) (r:Int):0<=X4 .u64 w r/\X4 .u64 w r<=w:=by
 unfold X4;have hp:(0:Int)<2 ^ (min r.toNat IntKind.u64.bits):=Int.pow_pos (by decide);rw[Int.fdiv_eq_ediv_of_nonneg _ (Int.le_of_lt hp)];exact⟨Int.ediv_nonneg h0 (Int.le_of_lt hp),Int.ediv_le_self _ h0⟩
theorem A3o:Ad Tryz.prog 205 A3n:=by
 refine fK [0,1,4,13] Tryz.func205 Tryz.ntmps205 AG ?_;rintro w0 O0 ⟨b,i,u⟩ d ⟨⟨m,k⟩,e,-⟩ -;have e:KX .i64 i:=e;rw[Kv]at e;have j:0<=i->Int.tdiv i 64=i / 64/\Int.tmod i 64=i % 64:=λh=>⟨oR h,ADI h⟩;simp only[A3n,AM];repeat'(first|exact trivial|refine eS rfl ?_|refine rX d ?_ ?_|refine rC ?_ ?_<;>intro c<;>try(cases c;done))
 ·intro h;have h0:0<=i:=by simpa using h
  obtain⟨a,g⟩:=j h0;rw[a];refine⟨by decide,?_,?_⟩<;>exact eV
 ·have h1:Tz b i=false:=by
   unfold Tz;rw[BY];rw[Su,Fj,Fj];exact c
  exact fI d [.tmp 4] (by rw[h1];exact eR)
 ·obtain⟨h0,l⟩:=c;obtain⟨a,g⟩:=j h0;rw[a]at l;have f:KX .u64 (b.getD (i / 64).toNat 0):=k _ (AE b 0 (by exact eV));rw[Hn]at f;have hs:=A8G f.1 (i % 64);rw[a,g];refine⟨⟨by decide,by exact eV,by exact eV⟩,⟨by exact eV,by exact eV⟩,⟨by decide,by exact eV,by exact eV⟩,⟨by exact eV,by exact eV⟩,by exact eV,hs.1,ADy hs.2 f.2⟩
 ·have h1:Tz b i=A3m (b.getD (i.tdiv 64).toNat 0) (i.tmod 64):=by
   unfold Tz;rw[An];rw[Su,Fj,Fj];rintro (h|h)<;>omega
  exact fI d [.tmp 4] (by rw[h1];unfold A3m;exact eR)
end
section
attribute [local go_sem] mT LA
def Ge (op:BinOp) (a b:List Int) (n:Nat):List Int:=(List.range n).map λi=>CA op .u64 (a.getD i 0) (GQ b (i:Int))
theorem E0 (op:BinOp) (a b:List Int) (n:Nat):(Ge op a b n).length=n:=by simp[Ge]
theorem Yy (op:BinOp) (a b:List Int) (n:Nat):Ge op a b (n+1)=Ge op a b n++[CA op .u64 (a.getD n 0) (GQ b (n:Int))]:=by simp[Ge,UJ]
def Ek (a b:List Int):List Int:=BM (Ge .and a b a.length)
def A3p:Ac:={ ins:=[BU,BU],pre:=λ(a,_,_)=>List.length a<=100000,out:=λ(a,b,_)=>[.p BU (Ek a b)] }
theorem A3q:Ad Tryz.prog 116 A3p:=by
 refine fK [0,1,4,5,6,10] Tryz.func116 Tryz.ntmps116 (AF vS (AF NQ AG)) ?_;rintro w0 O0 ⟨a,b,u⟩ c-ha;have ha:a.length<=100000:=ha;simp only[A3p,AM];repeat'(first|exact trivial|refine eS rfl ?_|refine rX c ?_ ?_)
 refine AK (ι:={n:Nat//n<=a.length}) (λn=>⟨[(0,.p BU a),(1,.p BU b),(5,.sr 23 QH 0 n.1),(6,.p (.int .i64) (n.1:Int))],[(23,.arr 186 QH (Ge .and a b n.1))]⟩) (λn=>a.length-n.1) ⟨0,IN _⟩ (AC [(23,.nil)] rfl rfl ?_ ?_) (λn=>?_)
 ·refine eM ?_;rfl
 ·exact eN
 ·obtain⟨n,hn⟩:=n;have g:=E0 .and a b n;have hs:=Yy .and a b n;simp only;repeat'(first|exact trivial|refine eS rfl ?_|refine AB ?_|refine rX c ?_ ?_|refine rC ?_ ?_<;>intro d<;>try(cases d;done))
  ·refine⟨d,?_⟩;simp only[AP];dsimp only[Ty.den]at *;omega
  ·exact eV
  ·have e:n<a.length:=by exact eV
   refine⟨⟨n+1,by omega⟩,by simp only;omega,AC [(23,.nm 23)] rfl rfl ?_ ?_⟩
   ·simp only[hs];refine eM ?_;rw[At (by rw[g];exact NO _)]
   ·exact eN
  ·have e:n=a.length:=by exact eV
   subst e;refine F1 [23] ?_;have f:(Ge .and a b a.length).take a.length=Ge .and a b a.length:=At (by rw[E0];exact NO _);repeat'(first|refine eS rfl ?_|refine rX c ?_ ?_)
   ·rw[f,E0];exact ha
   ·rw[f];exact fI c [.tmp 4] (by unfold Ek;exact eR)
def Rp (a b:List Int):List Int:=BM (Ge .andNot a b a.length)
def rH:Ac:={ ins:=[BU,BU],pre:=λ(a,_,_)=>List.length a<=100000,out:=λ(a,b,_)=>[.p BU (Rp a b)] }
attribute [local go_sem] rH
theorem A3r:Ad Tryz.prog 188 rH:=by
 refine fK [0,1,4,5,6,10] Tryz.func188 Tryz.ntmps188 (AF vS (AF NQ AG)) ?_;rintro w0 O0 ⟨a,b,u⟩ c-ha;have ha:a.length<=100000:=ha;simp only[rH,AM];repeat'(first|exact trivial|refine eS rfl ?_|refine rX c ?_ ?_)
 refine AK (ι:={n:Nat//n<=a.length}) (λn=>⟨[(0,.p BU a),(1,.p BU b),(5,.sr 23 QH 0 n.1),(6,.p (.int .i64) (n.1:Int))],[(23,.arr 186 QH (Ge .andNot a b n.1))]⟩) (λn=>a.length-n.1) ⟨0,IN _⟩ (AC [(23,.nil)] rfl rfl ?_ ?_) (λn=>?_)
 ·refine eM ?_;rfl
 ·exact eN
 ·obtain⟨n,hn⟩:=n;have g:=E0 .andNot a b n;have hs:=Yy .andNot a b n;simp only;repeat'(first|exact trivial|refine eS rfl ?_|refine AB ?_|refine rX c ?_ ?_|refine rC ?_ ?_<;>intro d<;>try(cases d;done))
  ·refine⟨d,?_⟩;simp only[AP];dsimp only[Ty.den]at *;omega
  ·exact eV
  ·have e:n<a.length:=by exact eV
   refine⟨⟨n+1,by omega⟩,by simp only;omega,AC [(23,.nm 23)] rfl rfl ?_ ?_⟩
   ·simp only[hs];refine eM ?_;rw[At (by rw[g];exact NO _)]
   ·exact eN
  ·have e:n=a.length:=by exact eV
   subst e;refine F1 [23] ?_;have f:(Ge .andNot a b a.length).take a.length=Ge .andNot a b a.length:=At (by rw[E0];exact NO _);repeat'(first|refine eS rfl ?_|refine rX c ?_ ?_)
   ·rw[f,E0];exact ha
   ·rw[f];exact fI c [.tmp 4] (by unfold Rp;exact eR)
def FA (a b:List Int):Bool:=((Rp a b).length:Int)==0
def QI:Ac:={ ins:=[BU,BU],pre:=λ(a,_,_)=>List.length a<=100000,out:=λ(a,b,_)=>[.p .bool (FA a b)],lend:=true }
attribute [local go_sem] QI
theorem Rq:Ad Tryz.prog 147 QI:=by
 refine fK [0,1,4] Tryz.func147 Tryz.ntmps147 (AF A3r AG) ?_;rintro w0 O0 ⟨a,b,u⟩ c-ha;have ha:a.length<=100000:=ha;simp only[QI,AM];repeat'(first|exact trivial|refine eS rfl ?_|refine rX c ?_ ?_)
 ·exact ha
 ·exact fI c [.tmp 4] (by unfold FA;exact eR)
def DP (a b:List Int):Bool:=FA a b&&FA b a
def bL:Ac:={ ins:=[BU,BU],pre:=λ(a,b,_)=>List.length a<=100000/\List.length b<=100000,out:=λ(a,b,_)=>[.p .bool (DP a b)],lend:=true }
theorem zA:Ad Tryz.prog 204 bL:=by
 refine fK [0,1,4] Tryz.func204 Tryz.ntmps204 (AF Rq AG) ?_;rintro w0 O0 ⟨a,b,u⟩ c-⟨ha,d⟩;simp only[bL,AM];repeat'(first|exact trivial|refine eS rfl ?_|refine rX c ?_ ?_)
 ·exact⟨ha,λ_=>d⟩
 ·exact fI c [.tmp 4] (by unfold DP;exact eR)
end
section
attribute [local go_sem] A3n
def Hb (a b:List Int):Bool:=decide (a=b)
def Vx:Ac:={ ins:=[BU,BU],pre:=λ_=>True,out:=λ(a,b,_)=>[.p .bool (Hb a b)],lend:=true }
theorem vT:Ad Tryz.prog 153 Vx:=by
 refine fK [0,1,4,5,10,14,25] Tryz.func153 Tryz.ntmps153 AG ?_;rintro w0 O0 ⟨a,b,u⟩ d ⟨⟨ha,-⟩,-⟩ -;simp only[AP]at ha;simp only[Vx,AM];repeat'(first|exact trivial|refine eS rfl ?_|refine rX d ?_ ?_|refine rC ?_ ?_<;>intro c<;>try(cases c;done))
 ·have h1:Hb a b=false:=by
   unfold Hb;rw[Of];rintro rfl;exact c rfl
  exact fI d [.tmp 4] (by rw[h1];exact eR)
 ·have f:a.length=b.length:=by
   have:(a.length:Int)=(b.length:Int):=by simpa using c
   exact Int.ofNat_inj.1 this
  refine AK (ι:={k:Nat//k<=a.length/\a.take k=b.take k}) (λk=>⟨[(0,.p BU a),(1,.p BU b),(5,.p (.int .i64) (k.1:Int))],[]⟩) (λk=>a.length-k.1) ⟨0,IN _,rfl⟩ (eW []) (λk=>?_)
  ·obtain⟨k,hk,hf⟩:=k;simp only;repeat'(first|exact trivial|refine eS rfl ?_|refine AB ?_|refine rX d ?_ ?_|refine rC ?_ ?_<;>intro c<;>try(cases c;done))
   ·exact⟨c,by rw[<-f];exact c⟩
   ·have e:k<a.length:=by exact eV
    have h1:Hb a b=false:=by
     unfold Hb;rw[Of];rintro rfl;exact c rfl
    exact fI d [.tmp 4] (by rw[h1];exact eR)
   ·exact eV
   ·have e:k<a.length:=by exact eV
    have g:a.getD k 0=b.getD k 0:=by simpa using c
    refine⟨⟨k+1,by omega,?_⟩,by simp only;omega,AC [] rfl rfl ?_ ?_⟩
    ·rw[A0 a 0 e,A0 b 0 (by omega),hf];rw[show a.getD k 0=b.getD k 0 from g]
    ·exact eN
    ·exact eN
   ·have e:k=a.length:=by exact eV
    subst e;rw[Sf,f,Sf]at hf;have h1:Hb a b=true:=by unfold Hb;rw[hf];simp
    exact fI d [.tmp 4] (by rw[h1];exact eR)
end
section
attribute [local go_sem] A3n
def OC (b:List Int) (n:Nat):List Int:=((List.range n).filter λ(i:Nat)=>Tz b (i:Int)).map λ(i:Nat)=>(i:Int)
def IW (b:List Int):List Int:=OC b (64*b.length)
theorem rI (b:List Int) (n:Nat):OC b (n+1)=OC b n++if Tz b (n:Int)=true then [(n:Int)] else []:=by
 unfold OC;rw[UJ,ADO,gO]
 congr 1
 rw[bY,AE2];split<;>rfl
theorem zB (b:List Int) (n:Nat):(OC b n).length<=n:=by
 unfold OC;rw[SX];exact Sd (aS _ _) (by simp)
def A3s:Ac:={ ins:=[BU],pre:=λ(b,_)=>List.length b<=100000,out:=λ(b,_)=>[.p F3 (IW b)] }
attribute [local go_sem] A3s
theorem A6h:Ad Tryz.prog 223 A3s:=by
 refine fK [0,2,3,4,9,14] Tryz.func223 Tryz.ntmps223 (AF A3o AG) ?_;rintro w0 O0 ⟨b,u⟩ c-e;have e:b.length<=100000:=e;simp only[A3s,AM];repeat'(first|exact trivial|refine eS rfl ?_|refine rX c ?_ ?_)
 refine AK (ι:={n:Nat//n<=64*b.length}) (λn=>⟨[(0,.p BU b),(3,.sr 18 T3 0 (OC b n.1).length),(4,.p (.int .i64) (n.1:Int))],[(18,.arr 3 T3 (OC b n.1))]⟩) (λn=>64*b.length-n.1) ⟨0,IN _⟩ (AC [(18,.nil)] rfl rfl ?_ ?_) (λn=>?_)
 ·refine eM ?_;rfl
 ·refine eM ?_;rfl
 ·obtain⟨n,hn⟩:=n;have f:=zB b n;have hs:=rI b n;simp only;repeat'(first|exact trivial|refine eS rfl ?_|refine AB ?_|refine rX c ?_ ?_|refine rC ?_ ?_<;>intro a<;>try(cases a;done))
  ·exact eV
  ·rw[a,BY rfl]at hs;simp only[AP];dsimp only[Ty.den]at *;omega
  ·exact eV
  ·have d:n<64*b.length:=by exact eV
   rw[a,BY rfl]at hs;refine⟨⟨n+1,by omega⟩,by simp only;omega,AC [(18,.nm 18)] rfl rfl ?_ ?_⟩
   ·simp only[hs];exact eN
   ·simp only[hs];exact eN
  ·exact eV
  ·have d:n<64*b.length:=by exact eV
   rw[a,An (by simp),Sq]at hs;refine⟨⟨n+1,by omega⟩,by simp only;omega,AC [(18,.nm 18)] rfl rfl ?_ ?_⟩
   ·simp only[hs];exact eN
   ·simp only[hs];exact eN
  ·have d:n=64*b.length:=by exact eV
   subst d;refine F1 [18] ?_;exact fI c [.tmp 2] (by unfold IW;exact eR)
def rJ:Ac:={ ins:=[BU],pre:=λ(b,_)=>List.length b<=100000,out:=λ(b,_)=>[.p T3 ((IW b).length:Int)],lend:=true }
theorem A3t:Ad Tryz.prog 207 rJ:=by
 refine fK [0,2] Tryz.func207 Tryz.ntmps207 (AF A6h AG) ?_;rintro w0 O0 ⟨b,u⟩ a-c;simp only[rJ,AM];repeat'(first|exact trivial|refine eS rfl ?_|refine rX a ?_ ?_)
 ·exact c
 ·exact fI a [.tmp 2]
end
section
attribute [local go_sem] Ju A3j
abbrev AI:=ByteArray×List ByteArray×List (ByteArray×ByteArray)
abbrev d0:AI:=(ByteArray.empty,[],[])
def Ct (s:ByteArray):Nat->List AI->Int
 | _,[]=>-1
 | k,x :: l=>if AY x.1 s=true then (k:Int) else Ct s (k+1) l
def Ap (l:List AI) (s:ByteArray):Int:=Ct s 0 l
theorem TH (s:ByteArray) (l:List AI) {k:Nat} (h:k<l.length):Ct s k (l.drop k)=if AY (l.getD k d0).1 s=true then (k:Int) else Ct s (k+1) (l.drop (k+1)):=by
 rw[On h];have e:l.getD k d0=l[k]:=by simp[AS,h]
 rw[e];rfl
def Ot:Ac:={ ins:=[FM,T9],pre:=λ_=>True,out:=λ(l,s,_)=>[.p T3 (Ap l s)] }
attribute [local go_sem] Ot
theorem MO:Ad Tryz.prog 219 Ot:=by
 refine fK [0,1,4,5,9,18] Tryz.func219 Tryz.ntmps219 AG ?_;rintro w0 O0 ⟨l,s,u⟩ c ⟨⟨d,-⟩,-⟩ -;simp only[AP]at d;simp only[Ot,AM];repeat'(first|exact trivial|refine eS rfl ?_|refine rX c ?_ ?_)
 refine AK (ι:={k:Nat//k<=l.length/\Ct s k (l.drop k)=Ap l s}) (λk=>⟨[(0,.p FM l),(1,.p T9 s),(5,.p (.int .i64) (k.1:Int))],[]⟩) (λk=>l.length-k.1) ⟨0,IN _,rfl⟩ (eW []) (λk=>?_)
 ·obtain⟨k,hk,hf⟩:=k;simp only;repeat'(first|exact trivial|refine eS rfl ?_|refine AB ?_|refine rX c ?_ ?_|refine rC ?_ ?_<;>intro b<;>try(cases b;done))
  ·exact b
  ·have a:k<l.length:=by exact eV
   rw[TH s l a,BY b]at hf;exact fI c [.tmp 4] (by rw[<-hf];exact eR)
  ·exact eV
  ·have a:k<l.length:=by exact eV
   rw[TH s l a,An (by rw[b];simp)]at hf;exact⟨⟨k+1,by omega,hf⟩,by simp only;omega,eW []⟩
  ·have a:l.drop k=[]:=By (by exact eV);rw[a]at hf;exact fI c [.tmp 4] (by rw[<-hf];first|exact eR|refine Xy ?_;rfl)
def MP:List AI->Int
 | []=>0
 | x :: l=>if 256<x.2.1.length\/256<x.2.2.length then 7 else MP l
def FN (l:List AI):Int:=if 256<l.length then 7 else MP l
theorem TJ (l:List AI) {k:Nat} (h:k<l.length):MP (l.drop k)=if 256<(l.getD k d0).2.1.length\/256<(l.getD k d0).2.2.length then 7 else MP (l.drop (k+1)):=by
 rw[On h];have e:l.getD k d0=l[k]:=by simp[AS,h]
 rw[e];rfl
def bM:Ac:={ ins:=[FM],pre:=λ_=>True,out:=λ(l,_)=>[.p Ls (FN l)] }
attribute [local go_sem] bM
theorem A3u:Ad Tryz.prog 196 bM:=by
 refine fK [0,2,3,6,10,28] Tryz.func196 Tryz.ntmps196 AG ?_;rintro w0 O0 ⟨l,u⟩ b ⟨⟨d,-⟩,-⟩ -;simp only[AP]at d;simp only[bM,AM];repeat'(first|exact trivial|refine eS rfl ?_|refine rX b ?_ ?_|refine rC ?_ ?_<;>intro a<;>try(cases a;done))
 ·have h1:FN l=7:=by unfold FN;rw[BY (by exact eV)]
  exact fI b [.tmp 2] (by rw[h1];exact eR)
 ·have h1:FN l=MP l:=by unfold FN;rw[An (by exact eV)]
  refine AK (ι:={k:Nat//k<=l.length/\MP (l.drop k)=FN l}) (λk=>⟨[(0,.p FM l),(3,.p (.int .i64) (k.1:Int))],[]⟩) (λk=>l.length-k.1) ⟨0,IN _,h1.symm⟩ (eW []) (λk=>?_)
  ·obtain⟨k,hk,hf⟩:=k;simp only;repeat'(first|exact trivial|refine eS rfl ?_|refine AB ?_|refine rX b ?_ ?_|refine rC ?_ ?_<;>intro a<;>try(cases a;done))
   ·exact⟨a,λ_=>a⟩
   ·have c:k<l.length:=by exact eV
    rw[TJ l c,BY (by
     rcases a with h|h
     ·exact .inl (If.1 h)
     ·exact .inr (If.1 h))]at hf
    exact fI b [.tmp 2] (by rw[<-hf];exact eR)
   ·exact eV
   ·have c:k<l.length:=by exact eV
    rw[TJ l c,An (by
     rintro (h|h)
     ·have:=Sb.1 a.1;exact absurd h (Nat.not_lt.2 this)
     ·have:=Sb.1 a.2;exact absurd h (Nat.not_lt.2 this))]at hf
    exact⟨⟨k+1,by omega,hf⟩,by simp only;omega,eW []⟩
   ·have c:l.drop k=[]:=By (by exact eV);rw[c]at hf;exact fI b [.tmp 2] (by rw[<-hf];first|exact eR|refine Xy ?_;rfl)
theorem Gf {α:Type} (l:List α) (d:α) (p:α->Bool) {k:Nat} (h:k<l.length):(l.take (k+1)).all p=((l.take k).all p&&p (l.getD k d)):=by
 rw[A0 l d h,AE4];simp
def Jv (x:AI) (done:List ByteArray):Bool:=x.2.1.all λs=>AZ done s
def bN:Ac:={ ins:=[y5,F4],pre:=λ_=>True,out:=λ(x,l,_)=>[.p .bool (Jv x l)],lend:=true }
attribute [local go_sem] bN
theorem A3v:Ad Tryz.prog 220 bN:=by
 refine fK [0,1,2,4,5,10,20] Tryz.func220 Tryz.ntmps220 (AF G2 AG) ?_;rintro w0 O0 ⟨⟨nm,sup,d⟩,l,u⟩ c ⟨⟨-,⟨e,-⟩,-⟩,-⟩ -;simp only[AP]at e;simp only[bN,AM];repeat'(first|exact trivial|refine eS rfl ?_|refine rX c ?_ ?_)
 refine AK (ι:={k:Nat//k<=sup.length/\(sup.take k).all (λs=>AZ l s)=true}) (λk=>⟨[(1,.p F4 l),(2,.bp 2 [] 0),(5,.p (.int .i64) (k.1:Int))],[(2,.box 158 true [.p T9 nm,.p F4 sup,.p f2 d])]⟩) (λk=>sup.length-k.1) ⟨0,by simp⟩ (eW [(2,.nm 2)]) (λk=>?_)
 ·obtain⟨k,hk,hf⟩:=k;simp only;repeat'(first|exact trivial|refine eS rfl ?_|refine AB ?_|refine rX c ?_ ?_|refine rC ?_ ?_<;>intro b<;>try(cases b;done))
  ·exact b
  ·have a:k<sup.length:=by exact eV
   have h1:Jv (nm,sup,d) l=false:=by
    unfold Jv;refine ADE.2 λh=>?_;have:=IS.1 h _ (AE sup ByteArray.empty a);rw[b]at this;cases this
   exact fI c [.tmp 4] (by rw[h1];exact eR)
  ·have:=e;exact eV
  ·have a:k<sup.length:=by exact eV
   refine⟨⟨k+1,by omega,?_⟩,by simp only;omega,AC [(2,.nm 2)] rfl rfl ?_ ?_⟩
   ·rw[Gf sup ByteArray.empty _ a,hf];exact b
   ·exact eN
   ·exact eN
  ·have a:sup.take k=sup:=At (by exact eV);rw[a]at hf;have h1:Jv (nm,sup,d) l=true:=hf;exact fI c [.tmp 4] (by rw[h1];exact eR)
def Ou (d:List AI):Nat->List AI->Int
 | _,[]=>0
 | k,x :: l=>if Ez x.1 false=false then 1 else if Ap d x.1<(k:Int) then 4 else Ou d (k+1) l
def Ci (d:List AI):Int:=Ou d 0 d
theorem MQ (d l:List AI) {k:Nat} (h:k<l.length):Ou d k (l.drop k)=if Ez (l.getD k d0).1 false=false then 1 else if Ap d (l.getD k d0).1<(k:Int) then 4 else Ou d (k+1) (l.drop (k+1)):=by
 rw[On h];have e:l.getD k d0=l[k]:=by simp[AS,h]
 rw[e];rfl
def bO:Ac:={ ins:=[FM],pre:=λ_=>True,out:=λ(l,_)=>[.p Ls (Ci l)] }
attribute [local go_sem] bO
theorem A3w:Ad Tryz.prog 197 bO:=by
 refine fK [0,2,3,7,16,25] Tryz.func197 Tryz.ntmps197 (AF A6g (AF MO AG)) ?_;rintro w0 O0 ⟨l,u⟩ c ⟨⟨e,-⟩,-⟩ -;simp only[AP]at e;simp only[bO,AM];repeat'(first|exact trivial|refine eS rfl ?_|refine rX c ?_ ?_)
 refine AK (ι:={k:Nat//k<=l.length/\Ou l k (l.drop k)=Ci l}) (λk=>⟨[(0,.p FM l),(3,.p (.int .i64) (k.1:Int))],[]⟩) (λk=>l.length-k.1) ⟨0,IN _,rfl⟩ (eW []) (λk=>?_)
 ·obtain⟨k,hk,hf⟩:=k;simp only;repeat'(first|exact trivial|refine eS rfl ?_|refine AB ?_|refine rX c ?_ ?_|refine rC ?_ ?_<;>intro b<;>try(cases b;done))
  ·exact b
  ·have a:k<l.length:=by exact eV
   rw[MQ l l a,BY b]at hf;exact fI c [.tmp 2] (by rw[<-hf];exact eR)
  ·assumption
  ·rename_i d;have a:k<l.length:=by exact eV
   rw[MQ l l a,An (by rw[d];simp),BY b]at hf;exact fI c [.tmp 2] (by rw[<-hf];exact eR)
  ·exact eV
  ·rename_i d;have a:k<l.length:=by exact eV
   rw[MQ l l a,An (by rw[d];simp),An (ACU.2 b)]at hf;exact⟨⟨k+1,by omega,hf⟩,by simp only;omega,eW []⟩
  ·have a:l.drop k=[]:=By (by exact eV);rw[a]at hf;exact fI c [.tmp 2] (by rw[<-hf];first|exact eR|refine Xy ?_;rfl)
def UA (d:List AI) (l:List ByteArray):Nat->List ByteArray->Int
 | _,[]=>0
 | k,x :: r=>if Ap d x<0 then 5 else if AZ (l.take k) x=true then 4 else UA d l (k+1) r
def LB (d:List AI):List AI->Int
 | []=>0
 | x :: l=>if UA d x.2.1 0 x.2.1≠0 then UA d x.2.1 0 x.2.1 else LB d l
def LC (d:List AI):Int:=LB d d
theorem Rr (d:List AI) (l:List ByteArray) {k:Nat} (h:k<l.length):UA d l k (l.drop k)=if Ap d (l.getD k ByteArray.empty)<0 then 5 else if AZ (l.take k) (l.getD k ByteArray.empty)=true then 4 else UA d l (k+1) (l.drop (k+1)):=by
 rw[On h];have e:l.getD k ByteArray.empty=l[k]:=by simp[AS,h]
 rw[e];rfl
theorem bP (d l:List AI) {k:Nat} (h:k<l.length):LB d (l.drop k)=if UA d (l.getD k d0).2.1 0 (l.getD k d0).2.1≠0 then UA d (l.getD k d0).2.1 0 (l.getD k d0).2.1 else LB d (l.drop (k+1)):=by
 rw[On h];have e:l.getD k d0=l[k]:=by simp[AS,h]
 rw[e];rfl
def Ub:Ac:={ ins:=[FM],pre:=λ_=>True,out:=λ(l,_)=>[.p Ls (LC l)] }
attribute [local go_sem] Ub
theorem zC:Ad Tryz.prog 198 Ub:=by
 refine fK [0,2,3,4,5,9,20,29,37] Tryz.func198 Tryz.ntmps198 (AF G2 (AF MO AG)) ?_;rintro w0 O0 ⟨l,u⟩ d ⟨⟨h,g⟩,-⟩ -;simp only[AP]at h;simp only[Ub,AM];repeat'(first|exact trivial|refine eS rfl ?_|refine rX d ?_ ?_)
 refine AK (ι:={i:Nat//i<=l.length/\LB l (l.drop i)=LC l}) (λi=>⟨[(0,.p FM l),(3,.p (.int .i64) (i.1:Int))],[]⟩) (λi=>l.length-i.1) ⟨0,IN _,rfl⟩ (eW []) (λi=>?_)
 ·obtain⟨i,hi,hf⟩:=i;simp only;repeat'(first|exact trivial|refine eS rfl ?_|refine rX d ?_ ?_|refine rC ?_ ?_<;>intro b<;>try(cases b;done))
  ·exact b
  ·have f:i<l.length:=by exact eV
   have j:=g _ (AE l d0 f);have m:(l.getD i d0).2.1.length<=AP:=j.2.1.1;simp only[AP]at m;rw[bP l l f]at hf;generalize (l.getD i d0).2.1=sup at *;refine AK (ι:={k:Nat//k<=sup.length/\UA l sup k (sup.drop k)=UA l sup 0 sup}) (λk=>⟨[(0,.p FM l),(3,.p (.int .i64) (i:Int)),(4,.p F4 sup),(5,.p (.int .i64) (k.1:Int))],[]⟩) (λk=>sup.length-k.1) ⟨0,IN _,rfl⟩ (eW []) (λk=>?_)
   ·obtain⟨k,hk,c⟩:=k;simp only;repeat'(first|exact trivial|refine eS rfl ?_|refine AB ?_|refine rX d ?_ ?_|refine rC ?_ ?_<;>intro b<;>try(cases b;done))
    ·exact b
    ·have a:k<sup.length:=by exact eV
     rw[Rr l sup a,BY b]at c;rw[<-c,BY (by decide)]at hf;exact fI d [.tmp 2] (by rw[<-hf];exact eR)
    ·exact eV
    ·rename_i e;have a:k<sup.length:=by exact eV
     rw[Rr l sup a,An (ACU.2 e),BY b]at c;rw[<-c,BY (by decide)]at hf;exact fI d [.tmp 2] (by rw[<-hf];exact eR)
    ·exact eV
    ·rename_i e;have a:k<sup.length:=by exact eV
     rw[Rr l sup a,An (ACU.2 e),An (by rw[b];simp)]at c;exact⟨⟨k+1,by omega,c⟩,by simp only;omega,eW []⟩
    ·exact eV
    ·have a:sup.drop k=[]:=By (by exact eV);rw[a]at c;rw[<-c,An (by simp[UA])]at hf;exact⟨⟨i+1,by omega,hf⟩,by simp only;omega,eW []⟩
  ·have a:l.drop i=[]:=By (by exact eV);rw[a]at hf;exact fI d [.tmp 2] (by rw[<-hf];first|exact eR|refine Xy ?_;rfl)
end
section
attribute [local go_sem] Ot bN Ju bK
theorem FB {α β:Type} (g:β->α->β) (l:List α) (d:α) (t:β) {i:Nat} (hi:i<l.length):(l.take (i+1)).foldl g t=g ((l.take i).foldl g t) (l.getD i d):=by
 rw[A0 l d hi,ADU];rfl
theorem MR (l:List ByteArray) (s:ByteArray):(Ec l s).length<=l.length+1:=by
 unfold Ec;split
 ·omega
 ·have:=A7V (λx=>HY x s) l;have a:atF l s<=l.length:=this;simp only[GO,OR,UI,SY];omega
def AN (l:List AI):List ByteArray:=l.foldl (λo x=>Ec o x.1) []
theorem D0 (l:List AI) (k:Nat):(AN (l.take k)).length<=k:=by
 have key:∀(l:List AI) (o:List ByteArray),(l.foldl (λo x=>Ec o x.1) o).length<=o.length+l.length:=by
  intro l;induction l with
  | nil=>intro o;simp
  | cons x l b =>
   intro o;have h1:=b (Ec o x.1);have a:=MR o x.1;simp only[ON,OS];omega
 have h1:=key (l.take k) [];have a:=oN k l;unfold AN;simp only[AD7]at h1;omega
def QJ:Ac:={ ins:=[FM],pre:=λ(l,_)=>List.length l<=100000,out:=λ(l,_)=>[.p F4 (AN l)] }
attribute [local go_sem] QJ
theorem Yz:Ad Tryz.prog 161 QJ:=by
 refine fK [0,2,3,4,8] Tryz.func161 Tryz.ntmps161 (AF Ro AG) ?_;rintro w0 O0 ⟨l,u⟩ a-d;have d:l.length<=100000:=d;simp only[QJ,AM];repeat'(first|exact trivial|refine eS rfl ?_|refine rX a ?_ ?_)
 refine AK (ι:={k:Nat//k<=l.length}) (λk=>⟨[(0,.p FM l),(3,.p F4 (AN (l.take k.1))),(4,.p (.int .i64) (k.1:Int))],[]⟩) (λk=>l.length-k.1) ⟨0,IN _⟩ (AC [] rfl rfl ?_ ?_) (λk=>?_)
 ·exact eN
 ·refine eM ?_;rfl
 ·obtain⟨k,hk⟩:=k;have hn:=D0 l k;have hs:=λh:k<l.length=>FB (λ(o:List ByteArray) (x:AI)=>Ec o x.1) l d0 [] h;simp only;repeat'(first|exact trivial|refine eS rfl ?_|refine AB ?_|refine rX a ?_ ?_|refine rC ?_ ?_<;>intro c<;>try(cases c;done))
  ·exact⟨c,by omega⟩
  ·exact eV
  ·have b:k<l.length:=by exact eV
   have e:=hs b;refine⟨⟨k+1,by omega⟩,by simp only;omega,AC [] rfl rfl ?_ ?_⟩
   ·exact eN
   ·simp only;have e:AN (l.take (k+1))=Ec (AN (l.take k)) (l.getD k d0).1:=e;rw[e];exact eN
  ·have b:l.take k=l:=At (by exact eV);rw[b];exact fI a [.tmp 2]
def JM (out:List ByteArray) (s:Bool×ByteArray) (x:AI):Bool×ByteArray :=
 if (AZ out x.1||!Jv x out)=true then s else (true,if (!s.1||HY x.1 s.2)=true then x.1 else s.2)
def IX (d:List AI) (out:List ByteArray):Bool×ByteArray:=d.foldl (JM out) (false,ByteArray.empty)
def JN (d:List AI):Nat->List ByteArray->List ByteArray
 | 0,out=>out
 | n+1,out=>if (IX d out).1=true then JN d n (out++[(IX d out).2]) else out
def Bl (d:List AI):List ByteArray:=JN d d.length []
def IY (d:List AI) (out:List ByteArray):Nat:=d.countP λx=>!AZ out x.1
theorem Cu (s:ByteArray):AY s s=true:=by unfold AY;simp
theorem Ov (out:List ByteArray) (s x:ByteArray):AZ (out++[s]) x=(AZ out x||AY s x):=by
 unfold AZ;simp[AE3]
theorem zD (d:List AI) (out:List ByteArray) (h:(IX d out).1=true):∃x∈d,x.1=(IX d out).2/\AZ out x.1=false:=by
 have key:∀(l:List AI) (s:Bool×ByteArray),(∀x∈l,x∈d)->(s.1=true->∃x∈d,x.1=s.2/\AZ out x.1=false)->(l.foldl (JM out) s).1=true ->
   ∃x∈d,x.1=(l.foldl (JM out) s).2/\AZ out x.1=false:=by
  intro l;induction l with
  | nil=>intro s _ hs h;exact hs h
  | cons y l g =>
   intro s c hs h;rw[ON]at h ⊢;refine g _ (λx e=>c x (by simp[e])) (λhp=>?_) h;unfold JM at hp ⊢;split
   ·rename_i a;rw[BY a]at hp;exact hs hp
   ·rename_i a;simp only;have f:AZ out y.1=false:=by
     cases hh:AZ out y.1 with
     | false=>rfl
     | true=>rw[hh]at a;simp at a
    split
    ·exact⟨y,c y (by simp),rfl,f⟩
    ·rename_i b;have:s.1=true:=by
      cases hh:s.1 with
      | true=>rfl
      | false=>rw[hh]at b;simp at b
     exact hs this
 exact key d _ (λ_ h=>h) (λh=>by cases h) h
theorem mU {d:List AI} {out:List ByteArray} (h:(IX d out).1=true):IY d (out++[(IX d out).2])<IY d out:=by
 obtain⟨x,e,h1,c⟩:=zD d out h;generalize (IX d out).2=s at *;unfold IY;have key:∀l:List AI,(l.countP λy=>!AZ (out++[s]) y.1)<=l.countP λy=>!AZ out y.1:=by
  intro l;refine List.countP_mono_left λy _ a=>?_;rw[Ov]at a;cases hh:AZ out y.1 with
  | false=>rfl
  | true=>rw[hh]at a;simp at a
 obtain⟨f,g,rfl⟩:=List.append_of_mem e;rw[AEI,AEI,ADK,ADK];have i:=key f;have j:=key g;have b:AZ (out++[s]) x.1=true:=by rw[Ov,h1,Cu,Bool.or_true]
 rw[b,c];simp only[Bool.not_true,Bool.not_false,ACF];simp only[AD4,ADs];omega
def bQ:Ac:={ ins:=[FM],pre:=λ(l,_)=>List.length l<=100000,out:=λ(l,_)=>[.p F4 (Bl l)] }
theorem zE:Ad Tryz.prog 199 bQ:=by
 refine fK [0,2,3,4,5,6,7,11,29,40,46] Tryz.func199 Tryz.ntmps199 (AF G2 (AF A3v AG)) ?_;rintro w0 O0 ⟨d,u⟩ j-r;have r:d.length<=100000:=r;simp only[bQ,AM];repeat'(first|exact trivial|refine eS rfl ?_|refine rX j ?_ ?_)
 refine AK (ι:={x:Nat×List ByteArray×Bool//x.1+x.2.1.length<=d.length/\(x.2.2=true->IY d x.2.1<=x.1/\JN d x.1 x.2.1=Bl d)/\(x.2.2=false->x.2.1=Bl d)}) (λx=>⟨[(0,.p FM d),(3,.sr 50 T9 0 x.1.2.1.length),(4,.p .bool x.1.2.2)],[(50,.arr 9 T9 x.1.2.1)]⟩) (λx=>(if x.1.2.2=true then x.1.1+1 else 0)) ⟨(d.length,[],true),by simp,λ_=>⟨List.countP_le_length,rfl⟩,λh=>by cases h⟩ (eW [(50,.nil)]) (λx=>?_)
 ·obtain⟨⟨n,out,C⟩,s,t,v⟩:=x;simp only at s t v;simp only;repeat'(first|exact trivial|refine eS rfl ?_|refine rX j ?_ ?_|refine rC ?_ ?_<;>intro a<;>try(cases a;done))
  ·subst a;obtain⟨hu,hp⟩:=t rfl;have B:({ data:=#[] }:ByteArray).size<=AP:=by decide
   rw[BY B];refine AK (ι:={y:Nat×Bool×ByteArray//y.1<=d.length/\(d.take y.1).foldl (JM out) (false,ByteArray.empty)=y.2}) (λy=>⟨[(0,.p FM d),(3,.sr 50 T9 0 out.length),(4,.p .bool y.1.2.1),(5,.p T9 y.1.2.2),(6,.p (.int .i64) (y.1.1:Int))],[(50,.arr 9 T9 out)]⟩) (λy=>d.length-y.1.1) ⟨(0,false,ByteArray.empty),by simp,rfl⟩ (AC [(50,.nm 50)] rfl rfl ?_ ?_) (λy=>?_)
   ·exact eN
   ·refine eM ?_;rfl
   ·obtain⟨⟨k,w,b⟩,hk,c⟩:=y;simp only at hk c;have q:∀h:k<d.length,(d.take (k+1)).foldl (JM out) (false,ByteArray.empty)=JM out (w,b) (d.getD k d0):=λh=>by
     rw[FB (JM out) d d0 _ h,c]
    simp only;repeat'(first|exact trivial|refine eS rfl ?_|refine AB ?_|refine rX j ?_ ?_|refine rC ?_ ?_<;>intro a<;>try(cases a;done))
    ·exact⟨a,λ_=>a⟩
    ·exact eV
    ·have g:k<d.length:=by exact eV
     refine⟨⟨(k+1,w,b),by simp only;omega,?_⟩,by simp only;omega,AC [(50,.nm 50)] rfl rfl ?_ ?_⟩
     ·simp only;rw[q g];unfold JM;rw[BY];rw[Su,SZ];exact a
     ·exact eN
     ·exact eN
    ·exact λ_=>by assumption
    ·assumption
    ·exact eV
    ·rename_i f;have g:k<d.length:=by exact eV
     refine⟨⟨(k+1,true,(d.getD k d0).1),by simp only;omega,?_⟩,by simp only;omega,AC [(50,.nm 50)] rfl rfl ?_ ?_⟩
     ·simp only;rw[q g];unfold JM;rw[An (by rw[f.1,f.2];simp),BY (by rw[Su,SZ];exact a)]
     ·exact eN
     ·exact eN
    ·exact eV
    ·rename_i f;have g:k<d.length:=by exact eV
     refine⟨⟨(k+1,true,b),by simp only;omega,?_⟩,by simp only;omega,AC [(50,.nm 50)] rfl rfl ?_ ?_⟩
     ·simp only;rw[q g];unfold JM;rw[An (by rw[f.1,f.2];simp),An (by rw[Su,SZ];rintro (h|h)<;>simp_all)]
     ·exact eN
     ·exact eN
    ·simp only[AP];dsimp only[Ty.den]at *;omega
    ·subst a;have l:d.take k=d:=At (by exact eV);rw[l]at c;have i:IX d out=(true,b):=c;have m:=mU (d:=d) (out:=out) (by rw[i]);rw[i]at m;obtain⟨e,rfl⟩:∃e,n=e+1:=⟨n-1,by omega⟩;have o:JN d e (out++[b])=Bl d:=by
      rw[<-hp];show _=if (IX d out).1=true then JN d e (out++[(IX d out).2]) else out
      rw[i,BY rfl]
     have m:IY d (out++[b])<IY d out:=m;have A:IY d (out++[b])<=e:=by omega
     exact⟨⟨(e,out++[b],true),by simp only[GO,SY];omega,λ_=>⟨A,o⟩,λh=>by cases h⟩,by simp,eW [(50,.nm 50)]⟩
    ·subst a;have l:d.take k=d:=At (by exact eV);rw[l]at c;have i:IX d out=(false,b):=c;have o:out=Bl d:=by
      rw[<-hp];cases n with
      | zero=>rfl
      | succ n =>
       show _=if (IX d out).1=true then JN d n (out++[(IX d out).2]) else out
       rw[i,An (by simp)]
     exact⟨⟨(n,out,false),s,(λh=>by cases h),λ_=>o⟩,by simp,eW [(50,.nm 50)]⟩
  ·subst a;have z:=v rfl;rw[z];refine F1 [50] ?_;exact fI j [.tmp 2]
end
section
attribute [local go_sem] bM bO Ub bQ
def IZ (d:List AI):Nat:=d.countP λx=>x.2.1.length==0
theorem mV (d:List AI) {k:Nat} (h:k<d.length):IZ (d.take (k+1))=IZ (d.take k)+if ((d.getD k d0).2.1.length==0)=true then 1 else 0:=by
 unfold IZ;rw[A0 d d0 h,AEI,ADK,List.countP_nil];omega
theorem zF (d:List AI):IZ d<=d.length:=List.countP_le_length
def A5 (d:List AI):Int :=
 if FN d≠0 then FN d else if Ci d≠0 then Ci d else if LC d≠0 then LC d else if IZ d≠1 then 1 else if (Bl d).length<d.length then 6 else 0
theorem TK {d:List AI} (h:FN d=0):d.length<=256:=by
 unfold FN at h;split at h
 ·cases h
 ·omega
def Uc:Ac:={ ins:=[FM],pre:=λ_=>True,out:=λ(l,_)=>[.p Ls (A5 l)] }
attribute [local go_sem] Uc
theorem zG:Ad Tryz.prog 160 Uc:=by
 refine fK [0,2,3,4,5,6,7,11,16,21,26,35,39,45] Tryz.func160 Tryz.ntmps160 (AF A3u (AF A3w (AF zC (AF zE AG)))) ?_;rintro w0 O0 ⟨d,u⟩ c - -;simp only[Uc,AM];repeat'(first|exact trivial|refine eS rfl ?_|refine rX c ?_ ?_|refine rC ?_ ?_<;>intro a<;>try(cases a;done))
 ·have h1:A5 d=FN d:=by unfold A5;rw[BY a]
  exact fI c [.tmp 2] (by rw[h1];exact eR)
 ·rename_i hs;have hs:FN d=0:=by simpa using hs
  have h1:A5 d=Ci d:=by unfold A5;rw[An (by rw[hs];simp),BY a]
  exact fI c [.tmp 2] (by rw[h1];exact eR)
 ·rename_i hs hn;have hs:FN d=0:=by simpa using hs
  have hn:Ci d=0:=by simpa using hn
  have h1:A5 d=LC d:=by unfold A5;rw[An (by rw[hs];simp),An (by rw[hn];simp),BY a]
  exact fI c [.tmp 2] (by rw[h1];exact eR)
 ·rename_i hs hn;have hs:FN d=0:=by simpa using hs
  have hn:Ci d=0:=by simpa using hn
  have hu:LC d=0:=by simpa using a
  have i:=TK hs;have h1:A5 d=if IZ d≠1 then 1 else if (Bl d).length<d.length then 6 else 0:=by
   unfold A5;rw[An (by rw[hs];simp),An (by rw[hn];simp),An (by rw[hu];simp)]
  refine AK (ι:={k:Nat//k<=d.length}) (λk=>⟨[(0,.p FM d),(6,.p (.int .i64) (IZ (d.take k.1):Int)),(7,.p (.int .i64) (k.1:Int))],[]⟩) (λk=>d.length-k.1) ⟨0,IN _⟩ (AC [] rfl rfl ?_ ?_) (λk=>?_)
  ·exact eN
  ·refine eM ?_;rfl
  ·obtain⟨k,hk⟩:=k;have j:=zF (d.take k);have l:=oN k d;have g:=λh:k<d.length=>mV d h;simp only;repeat'(first|exact trivial|refine eS rfl ?_|refine AB ?_|refine rX c ?_ ?_|refine rC ?_ ?_<;>intro a<;>try(cases a;done))
   ·exact a
   ·exact eV
   ·exact eV
   ·have b:k<d.length:=by exact eV
    have e:=g b;rw[BY (by rw[UH];exact Int.ofNat_eq_zero.1 a)]at e;refine⟨⟨k+1,by omega⟩,by simp only;omega,AC [] rfl rfl ?_ ?_⟩
    ·exact eN
    ·simp only[e];exact eN
   ·exact eV
   ·have b:k<d.length:=by exact eV
    have e:=g b;rw[An (by rw[UH];exact λh=>a (Int.ofNat_eq_zero.2 h))]at e;refine⟨⟨k+1,by omega⟩,by simp only;omega,AC [] rfl rfl ?_ ?_⟩
    ·exact eN
    ·simp only[e];exact eN
   ·have b:d.take k=d:=At (by exact eV);rw[b]at a;rw[BY (λh=>a (by rw[h];rfl))]at h1;exact fI c [.tmp 2] (by rw[h1];exact eR)
   ·show d.length<=100000;omega
   ·rename_i f;have b:d.take k=d:=At (by exact eV);rw[b]at f;have f:(IZ d:Int)=1:=by simpa using f
    rw[An (by omega),BY (If.1 a)]at h1;exact fI c [.tmp 2] (by rw[h1];exact eR)
   ·rename_i f;have b:d.take k=d:=At (by exact eV);rw[b]at f;have f:(IZ d:Int)=1:=by simpa using f
    rw[An (by omega),An (λh=>absurd (Sb.1 a) (Nat.not_le.2 h))]at h1;exact fI c [.tmp 2] (by rw[h1];exact eR)
end
section
attribute [local go_sem] Ot Ju bK
def KH (o:List ByteArray) (s:ByteArray):List ByteArray:=if AZ o s=true then o else o++[s]
def MS (d:List AI) (s:ByteArray):List ByteArray:=(d.getD (Ap d s).toNat d0).2.1
def Ia (d:List AI):Nat->Nat->List ByteArray->List ByteArray
 | 0,_,o=>o
 | n+1,i,o=>if i<o.length then Ia d n (i+1) ((MS d (o.getD i ByteArray.empty)).foldl KH o) else o
def KI (l:List ByteArray):List ByteArray:=l.foldl Ec []
theorem Y0 (l:List ByteArray):(KI l).length<=l.length:=by
 have key:∀(l o:List ByteArray),(l.foldl Ec o).length<=o.length+l.length:=by
  intro l;induction l with
  | nil=>intro o;simp
  | cons x l a =>
   intro o;have h1:=a (Ec o x);have b:=MR o x;simp only[ON,OS];omega
 have:=key l [];simpa[KI] using this
def LD (d:List AI) (s:ByteArray):List ByteArray:=if Ap d s<0 then [] else KI (Ia d d.length 0 [s])
def QK (d:List AI):Prop:=∀x∈d,∀s∈x.2.1,0<=Ap d s
theorem Y2 (s:ByteArray):∀(l:List AI) (k:Nat),Ct s k l=-1\/((k:Int)<=Ct s k l/\Ct s k l<(k:Int)+l.length/\AY (l.getD ((Ct s k l).toNat-k) d0).1 s=true)
 | [],_=>.inl rfl
 | x :: l,k=>by
  simp only[Ct];split
  ·rename_i h;right;refine⟨by omega,by simp only[OS];omega,?_⟩;have:((k:Int).toNat-k)=0:=by omega
   rw[this];exact h
  ·rcases Y2 s l (k+1) with h|⟨h1,b,a⟩
   ·exact .inl h
   ·right;refine⟨by omega,by simp only[OS];omega,?_⟩;have:((Ct s (k+1) l).toNat-k)=((Ct s (k+1) l).toNat-(k+1))+1:=by omega
    rw[this];exact a
theorem DQ (d:List AI) (s:ByteArray):Ap d s<0\/(0<=Ap d s/\Ap d s<(d.length:Int)/\AY (d.getD (Ap d s).toNat d0).1 s=true):=by
 rcases Y2 s d 0 with h|⟨h1,a,b⟩
 ·left;show Ct s 0 d<0;omega
 ·have a:Ap d s<((0:Nat):Int)+d.length:=a;exact .inr ⟨h1,by omega,b⟩
theorem H0 {a b:ByteArray}:AY a b=true↔a.toList=b.toList:=by unfold AY;simp
theorem D5 {a b:ByteArray} (h:AY a b=true):AY b a=true:=H0.2 (H0.1 h).symm
theorem BZ {a b c:ByteArray} (h:AY a b=true) (g:AY b c=true):AY a c=true:=H0.2 ((H0.1 h).trans (H0.1 g))
structure bS (d:List AI) (o:List ByteArray):Prop where
 decl:∀s∈o,0<=Ap d s
 nd:o.Pairwise λa b=>AY a b=false
theorem LE (d:List AI):∀ {o:List ByteArray},bS d o->(o.map λs=>(Ap d s).toNat).Nodup
 | [],_=>by simp
 | s :: o,h=>by
  rw[So,UN];have c:=To.1 h.nd;refine⟨λi=>?_,LE d ⟨λx a=>h.decl x (by simp[a]),c.2⟩⟩;obtain⟨x,a,e⟩:=IF.1 i;have h1:=h.decl s (by simp);have j:=h.decl x (by simp[a]);rcases DQ d s with g|⟨_,_,f⟩
  ·omega
  ·rcases DQ d x with g|⟨_,_,b⟩
   ·omega
   ·rw[e]at b;have:=c.1 x a;rw[BZ (D5 f) b]at this;cases this
theorem bS.len {d:List AI} {o:List ByteArray} (h:bS d o):o.length<=d.length:=by
 have:=EU d.length (o.map λs=>(Ap d s).toNat) (LE d h) (λj a=>by
  obtain⟨s,hs,rfl⟩:=IF.1 a;have h1:=h.decl s hs;rcases DQ d s with g|⟨_,g,_⟩<;>omega)
 simpa using this
theorem QL {o:List ByteArray} {s:ByteArray} (h:AZ o s=false):∀x∈o,AY x s=false:=λx a=>by
 cases hh:AY x s with
 | false=>rfl
 | true=>exact absurd h (by rw[show AZ o s=true from Sc.2 ⟨x,a,hh⟩];simp)
theorem vU {d:List AI} {o:List ByteArray} (h:bS d o) {s:ByteArray} (hs:0<=Ap d s):bS d (KH o s):=by
 unfold KH;split
 ·exact h
 ·rename_i e;have e:AZ o s=false:=by simpa using e
  refine⟨λx c=>?_,?_⟩
  ·rcases No.1 c with c|c
   ·exact h.decl x c
   ·have:x=s:=by simpa using c
    rw[this];exact hs
  ·rw[ADq];refine⟨h.nd,by simp,λa ha b f=>?_⟩;have:b=s:=by simpa using f
   rw[this];exact QL e a ha
theorem mW {d:List AI}:∀ {l o:List ByteArray},(∀s∈l,0<=Ap d s)->bS d o->bS d (l.foldl KH o)/\o.length<=(l.foldl KH o).length
 | [],o,_,h=>⟨h,NO _⟩
 | s :: l,o,a,h=>by
  obtain⟨b,c⟩:=mW (l:=l) (λx e=>a x (by simp[e])) (vU h (a s (by simp)));refine⟨b,Sd ?_ c⟩;unfold KH;split<;>simp
theorem mX {d:List AI} (b:QK d) (s:ByteArray):∀x∈MS d s,0<=Ap d x:=by
 intro x a;unfold MS at a;by_cases h:(Ap d s).toNat<d.length
 ·exact b _ (AE d d0 h) x a
 ·rw[AS,Sj (by omega)]at a;cases a
def rK:Ac:={ ins:=[FM,T9],pre:=λ(d,_,_)=>QK d/\List.length d<=256,out:=λ(d,s,_)=>[.p F4 (LD d s)] }
theorem A3x:Ad Tryz.prog 222 rK:=by
 refine fK [0,1,4,5,6,7,8,9,10,14,20,36,45,56] Tryz.func222 Tryz.ntmps222 (AF MO (AF G2 (AF Ro AG))) ?_;rintro w0 O0 ⟨d,s,u⟩ b ⟨⟨Q,G⟩,-⟩ ⟨O,z⟩;have z:d.length<=256:=z;simp only[rK,AM];repeat'(first|exact trivial|refine eS rfl ?_|refine rX b ?_ ?_|refine rC ?_ ?_<;>intro a<;>try(cases a;done))
 ·have h1:LD d s=[]:=by unfold LD;rw[BY a]
  exact fI b [.tmp 4] (by rw[h1];exact eR)
 ·have h1:LD d s=KI (Ia d d.length 0 [s]):=by unfold LD;rw[An (ACU.2 a)]
  have F:bS d [s]:=⟨λx y=>by
   have:x=s:=by simpa using y
   rw[this];exact a,by simp⟩
  refine AK (ι:={x:Nat×List ByteArray//x.1<=x.2.length/\bS d x.2/\Ia d (d.length-x.1) x.1 x.2=Ia d d.length 0 [s]}) (λx=>⟨[(0,.p FM d),(1,.p T9 s),(5,.sr 16 T9 0 x.1.2.length),(6,.p (.int .i64) (x.1.1:Int))],[(16,.arr 9 T9 x.1.2)]⟩) (λx=>d.length-x.1.1) ⟨(0,[s]),by simp,F,rfl⟩ (eW [(16,.nm 16)]) (λx=>?_)
  ·obtain⟨⟨i,o⟩,hi,c,t⟩:=x;simp only at hi c t;have U:=c.len;simp only;repeat'(first|exact trivial|refine eS rfl ?_|refine rX b ?_ ?_|refine rC ?_ ?_<;>intro a<;>try(cases a;done))
   ·have q:i<o.length:=by exact eV
    have A:=c.decl _ (AE o ByteArray.empty q);refine⟨a,A,?_⟩;rcases DQ d (o.getD i ByteArray.empty) with g|⟨_,g,_⟩
    ·omega
    ·exact g
   ·have q:i<o.length:=by exact eV
    have A:=c.decl _ (AE o ByteArray.empty q);have K:=mX O (o.getD i ByteArray.empty);have C:Ia d (d.length-(i+1)) (i+1) ((MS d (o.getD i ByteArray.empty)).foldl KH o)=Ia d d.length 0 [s]:=by
     rw[<-t];obtain⟨m,B⟩:∃m,d.length-i=m+1:=⟨d.length-i-1,by omega⟩;have H:d.length-(i+1)=m:=by omega
     rw[B,H];show _=if i<o.length then Ia d m (i+1) ((MS d (o.getD i ByteArray.empty)).foldl KH o) else o
     rw[BY q]
    have M:(MS d (o.getD i ByteArray.empty)).length<=AP:=by
     rcases DQ d (o.getD i ByteArray.empty) with g|⟨_,g,_⟩
     ·omega
     ·exact(G _ (AE d d0 (k:=(Ap d (o.getD i ByteArray.empty)).toNat) (by omega))).2.1.1
    have N:(List.getD d (Ap d (o.getD i ByteArray.empty)).toNat (ByteArray.empty,[],[])).2.1=MS d (o.getD i ByteArray.empty):=rfl;rw[N];generalize MS d (o.getD i ByteArray.empty)=sup at *;simp only[AP]at M;refine AK (ι:={k:Nat//k<=sup.length}) (λk=>⟨[(0,.p FM d),(1,.p T9 s),(5,.sr 16 T9 0 ((sup.take k.1).foldl KH o).length),(6,.p (.int .i64) (i:Int)),(7,.p F4 sup),(8,.p (.int .i64) (k.1:Int))],[(16,.arr 9 T9 ((sup.take k.1).foldl KH o))]⟩) (λk=>sup.length-k.1) ⟨0,IN _⟩ (AC [(16,.nm 16)] rfl rfl ?_ ?_) (λk=>?_)
    ·refine eM ?_;rfl
    ·refine eM ?_;rfl
    ·obtain⟨k,hk⟩:=k;have w:=mW (l:=sup.take k) (o:=o) (λx y=>K x (dO y)) c;have S:=w.1.len;have E:=λh:k<sup.length=>FB KH sup ByteArray.empty o h;simp only;generalize D:(sup.take k).foldl KH o=n at *;repeat'(first|exact trivial|refine eS rfl ?_|refine AB ?_|refine rX b ?_ ?_|refine rC ?_ ?_<;>intro a<;>try(cases a;done))
     ·exact a
     ·refine⟨by exact eV,?_⟩;simp only[AP];dsimp only[Ty.den]at *;omega
     ·exact eV
     ·have f:k<sup.length:=by exact eV
      have e:=E f;have r:KH n (sup.getD k ByteArray.empty)=n++[sup.getD k ByteArray.empty]:=by unfold KH;rw[An (by rw[a];simp)]
      rw[r]at e;refine⟨⟨k+1,by omega⟩,by simp only;omega,AC [(16,.nm 16)] rfl rfl ?_ ?_⟩
      ·simp only[e];exact eN
      ·simp only[e];exact eN
     ·exact eV
     ·have f:k<sup.length:=by exact eV
      have e:=E f;have r:KH n (sup.getD k ByteArray.empty)=n:=by unfold KH;rw[BY a]
      rw[r]at e;refine⟨⟨k+1,by omega⟩,by simp only;omega,AC [(16,.nm 16)] rfl rfl ?_ ?_⟩
      ·simp only[e];exact eN
      ·simp only[e];exact eN
     ·exact eV
     ·have f:sup.take k=sup:=At (by exact eV);rw[f]at D;rw[D]at C;have J:=w.1;have T:=w.2;exact⟨⟨(i+1,n),by simp only;omega,J,C⟩,by simp only;omega,eW [(16,.nm 16)]⟩
   ·have I:o=Ia d d.length 0 [s]:=by
     rw[<-t];cases B:d.length-i with
     | zero=>rfl
     | succ m =>
      show _=if i<o.length then _ else o
      rw[An (by exact eV)]
    rw[<-I]at h1;refine AK (ι:={j:Nat//j<=o.length}) (λj=>⟨[(0,.p FM d),(5,.sr 16 T9 0 o.length),(9,.p F4 ((o.take j.1).foldl Ec [])),(10,.p (.int .i64) (j.1:Int))],[(16,.arr 9 T9 o)]⟩) (λj=>o.length-j.1) ⟨0,IN _⟩ (AC [(16,.nm 16)] rfl rfl ?_ ?_) (λj=>?_)
    ·exact eN
    ·refine eM ?_;rfl
    ·obtain⟨j,R⟩:=j;have L:=λh:j<o.length=>FB Ec o ByteArray.empty [] h;simp only;repeat'(first|exact trivial|refine eS rfl ?_|refine AB ?_|refine rX b ?_ ?_|refine rC ?_ ?_<;>intro a<;>try(cases a;done))
     ·refine⟨a,?_⟩;have:=Y0 (o.take j);have P:=oN j o;unfold KI at this;dsimp only[Ty.den]at *;omega
     ·exact eV
     ·have v:j<o.length:=by exact eV
      have e:=L v;refine⟨⟨j+1,by omega⟩,by simp only;omega,AC [(16,.nm 16)] rfl rfl ?_ ?_⟩
      ·exact eN
      ·simp only[e];exact eN
     ·have v:o.take j=o:=At (by exact eV);rw[v];exact fI b [.tmp 4] (by rw[h1];unfold KI;exact eR)
end
section
attribute [local go_sem] Ot Ju bK
def FW (s:ByteArray) (o:List ByteArray) (x:AI):List ByteArray:=if (AZ x.2.1 s&&!AZ o x.1)=true then o++[x.1] else o
def Cj (d:List AI):Nat->Nat->List ByteArray->List ByteArray
 | 0,_,o=>o
 | n+1,i,o=>if i<o.length then Cj d n (i+1) (d.foldl (FW (o.getD i ByteArray.empty)) o) else o
def Ck (d:List AI) (s:ByteArray):List ByteArray:=if Ap d s<0 then [] else KI (Cj d d.length 0 [s])
theorem Vy (s:ByteArray):∀(l:List AI) (k:Nat) (x:AI),x∈l->AY x.1 s=true->0<=Ct s k l
 | y :: l,k,x,a,h=>by
  simp only[Ct];split
  ·omega
  ·rename_i b;rcases Do.1 a with rfl|a
   ·exact absurd h b
   ·exact Vy s l (k+1) x a h
theorem DV {d:List AI} {x:AI} (a:x∈d):0<=Ap d x.1:=Vy x.1 d 0 x a (Cu _)
theorem A6i {d:List AI} {o:List ByteArray} (h:bS d o) (s:ByteArray) {x:AI} (b:x∈d):bS d (FW s o x):=by
 unfold FW;split
 ·rename_i a;rw[AT,SZ]at a;have:=vU h (DV b);unfold KH at this
  rwa [An (by rw[a.2];simp)]at this
 ·exact h
theorem Vz {d:List AI} (s:ByteArray):∀ {l:List AI} {o:List ByteArray},(∀x∈l,x∈d)->bS d o->bS d (l.foldl (FW s) o)/\o.length<=(l.foldl (FW s) o).length
 | [],o,_,h=>⟨h,NO _⟩
 | x :: l,o,a,h=>by
  obtain⟨b,c⟩:=Vz s (l:=l) (λy e=>a y (by simp[e])) (A6i h s (a x (by simp)));refine⟨b,Sd ?_ c⟩;unfold FW;split<;>simp
theorem Rs (s:ByteArray) {i:Nat}:∀ {l:List AI} {o:List ByteArray},i<o.length->(l.foldl (FW s) o).getD i ByteArray.empty=o.getD i ByteArray.empty
 | [],_,_=>rfl
 | x :: l,o,h=>by
  have a:i<(FW s o x).length/\(FW s o x).getD i ByteArray.empty=o.getD i ByteArray.empty:=by
   unfold FW;split
   ·refine⟨by rw[GO];omega,?_⟩;simp only[AS];rw[Sp h]
   ·exact⟨h,rfl⟩
  rw[ON,Rs s a.1,a.2]
def bT:Ac:={ ins:=[FM,T9],pre:=λ(d,_,_)=>List.length d<=256,out:=λ(d,s,_)=>[.p F4 (Ck d s)] }
attribute [local go_sem] bT
theorem A3y:Ad Tryz.prog 200 bT:=by
 refine fK [0,1,4,5,6,7,8,9,13,19,25,47,59] Tryz.func200 Tryz.ntmps200 (AF MO (AF G2 (AF Ro AG))) ?_;rintro w0 O0 ⟨d,s,u⟩ b-y;have y:d.length<=256:=y;simp only[bT,AM];repeat'(first|exact trivial|refine eS rfl ?_|refine rX b ?_ ?_|refine rC ?_ ?_<;>intro a<;>try(cases a;done))
 ·have h1:Ck d s=[]:=by unfold Ck;rw[BY a]
  exact fI b [.tmp 4] (by rw[h1];exact eR)
 ·have h1:Ck d s=KI (Cj d d.length 0 [s]):=by unfold Ck;rw[An (ACU.2 a)]
  have F:bS d [s]:=⟨λx v=>by
   have:x=s:=by simpa using v
   rw[this];exact a,by simp⟩
  refine AK (ι:={x:Nat×List ByteArray//x.1<=x.2.length/\bS d x.2/\Cj d (d.length-x.1) x.1 x.2=Cj d d.length 0 [s]}) (λx=>⟨[(0,.p FM d),(5,.sr 15 T9 0 x.1.2.length),(6,.p (.int .i64) (x.1.1:Int))],[(15,.arr 9 T9 x.1.2)]⟩) (λx=>d.length-x.1.1) ⟨(0,[s]),by simp,F,rfl⟩ (eW [(15,.nm 15)]) (λx=>?_)
  ·obtain⟨⟨i,o⟩,hi,q,r⟩:=x;simp only at hi q r;have P:=q.len;simp only;repeat'(first|exact trivial|refine eS rfl ?_|refine rX b ?_ ?_|refine rC ?_ ?_<;>intro a<;>try(cases a;done))
   ·have z:i<o.length:=by exact eV
    have B:Cj d (d.length-(i+1)) (i+1) (d.foldl (FW (o.getD i ByteArray.empty)) o)=Cj d d.length 0 [s]:=by
     rw[<-r];obtain⟨m,A⟩:∃m,d.length-i=m+1:=⟨d.length-i-1,by omega⟩;have G:d.length-(i+1)=m:=by omega
     rw[A,G];show _=if i<o.length then Cj d m (i+1) (d.foldl (FW (o.getD i ByteArray.empty)) o) else o
     rw[BY z]
    refine AK (ι:={k:Nat//k<=d.length}) (λk=>⟨[(0,.p FM d),(5,.sr 15 T9 0 ((d.take k.1).foldl (FW (o.getD i ByteArray.empty)) o).length),(6,.p (.int .i64) (i:Int)),(7,.p (.int .i64) (k.1:Int))],[(15,.arr 9 T9 ((d.take k.1).foldl (FW (o.getD i ByteArray.empty)) o))]⟩) (λk=>d.length-k.1) ⟨0,IN _⟩ (AC [(15,.nm 15)] rfl rfl ?_ ?_) (λk=>?_)
    ·refine eM ?_;rfl
    ·refine eM ?_;rfl
    ·obtain⟨k,hk⟩:=k;have g:=Vz (o.getD i ByteArray.empty) (l:=d.take k) (o:=o) (λx v=>dO v) q;have N:=g.1.len;have E:=λh:k<d.length=>FB (FW (o.getD i ByteArray.empty)) d d0 o h;have D:((d.take k).foldl (FW (o.getD i ByteArray.empty)) o).getD i ByteArray.empty=o.getD i ByteArray.empty:=Rs _ z;simp only;generalize C:(d.take k).foldl (FW (o.getD i ByteArray.empty)) o=f at *;repeat'(first|exact trivial|refine eS rfl ?_|refine AB ?_|refine rX b ?_ ?_|refine rC ?_ ?_<;>intro a<;>try(cases a;done))
     ·have M:=g.2;refine⟨a,?_,λ_=>a⟩;dsimp only[Ty.den]at *;omega
     ·refine⟨by assumption,?_⟩;simp only[AP];dsimp only[Ty.den]at *;omega
     ·exact eV
     ·have c:k<d.length:=by exact eV
      have e:=E c;rw[D]at a;have n:FW (o.getD i ByteArray.empty) f (d.getD k d0)=f++[(d.getD k d0).1]:=by
       unfold FW;rw[BY (by rw[AT,SZ];exact a)]
      rw[n]at e;refine⟨⟨k+1,by omega⟩,by simp only;omega,AC [(15,.nm 15)] rfl rfl ?_ ?_⟩
      ·simp only[e];exact eN
      ·simp only[e];exact eN
     ·exact eV
     ·have c:k<d.length:=by exact eV
      have e:=E c;rw[D]at a;have n:FW (o.getD i ByteArray.empty) f (d.getD k d0)=f:=by
       unfold FW;rw[An];rw[AT,SZ];rintro⟨h1,w⟩;rw[a h1]at w;cases w
      rw[n]at e;refine⟨⟨k+1,by omega⟩,by simp only;omega,AC [(15,.nm 15)] rfl rfl ?_ ?_⟩
      ·simp only[e];exact eN
      ·simp only[e];exact eN
     ·exact eV
     ·have c:d.take k=d:=At (by exact eV);rw[c]at C;rw[C]at B;have I:=g.1;have O:=g.2;exact⟨⟨(i+1,f),by simp only;omega,I,B⟩,by simp only;omega,eW [(15,.nm 15)]⟩
   ·have H:o=Cj d d.length 0 [s]:=by
     rw[<-r];cases A:d.length-i with
     | zero=>rfl
     | succ m =>
      show _=if i<o.length then _ else o
      rw[An (by exact eV)]
    rw[<-H]at h1;refine AK (ι:={j:Nat//j<=o.length}) (λj=>⟨[(0,.p FM d),(5,.sr 15 T9 0 o.length),(8,.p F4 ((o.take j.1).foldl Ec [])),(9,.p (.int .i64) (j.1:Int))],[(15,.arr 9 T9 o)]⟩) (λj=>o.length-j.1) ⟨0,IN _⟩ (AC [(15,.nm 15)] rfl rfl ?_ ?_) (λj=>?_)
    ·exact eN
    ·refine eM ?_;rfl
    ·obtain⟨j,L⟩:=j;have J:=λh:j<o.length=>FB Ec o ByteArray.empty [] h;simp only;repeat'(first|exact trivial|refine eS rfl ?_|refine AB ?_|refine rX b ?_ ?_|refine rC ?_ ?_<;>intro a<;>try(cases a;done))
     ·refine⟨a,?_⟩;have:=Y0 (o.take j);have K:=oN j o;unfold KI at this;dsimp only[Ty.den]at *;omega
     ·exact eV
     ·have t:j<o.length:=by exact eV
      have e:=J t;refine⟨⟨j+1,by omega⟩,by simp only;omega,AC [(15,.nm 15)] rfl rfl ?_ ?_⟩
      ·exact eN
      ·simp only[e];exact eN
     ·have t:o.take j=o:=At (by exact eV);rw[t];exact fI b [.tmp 4] (by rw[h1];unfold KI;exact eR)
end
section
attribute [local go_sem] Ot bK rK Ju
def FX (d:List AI) (o:List ByteArray) (x:ByteArray):List ByteArray:=if 0<=Ap d x then Ec o x else o
def Bg (d:List AI) (l:List ByteArray):List ByteArray:=l.foldl (FX d) []
theorem Jw (d:List AI) (l:List ByteArray):(Bg d l).length<=l.length:=by
 have key:∀(l o:List ByteArray),(l.foldl (FX d) o).length<=o.length+l.length:=by
  intro l;induction l with
  | nil=>intro o;simp
  | cons x l a =>
   intro o;have h1:=a (FX d o x);have b:(FX d o x).length<=o.length+1:=by
    unfold FX;split
    ·exact MR o x
    ·omega
   simp only[ON,OS];omega
 have:=key l [];simpa[Bg] using this
def Ru:Ac:={ ins:=[FM,F4],pre:=λ(_,l,_)=>List.length l<=100000,out:=λ(d,l,_)=>[.p F4 (Bg d l)] }
attribute [local go_sem] Ru
theorem mY:Ad Tryz.prog 221 Ru:=by
 refine fK [0,1,4,5,6,10,19] Tryz.func221 Tryz.ntmps221 (AF MO (AF Ro AG)) ?_;rintro w0 O0 ⟨d,l,u⟩ c-f;have f:l.length<=100000:=f;simp only[Ru,AM];repeat'(first|exact trivial|refine eS rfl ?_|refine rX c ?_ ?_)
 refine AK (ι:={k:Nat//k<=l.length}) (λk=>⟨[(0,.p FM d),(1,.p F4 l),(5,.p F4 (Bg d (l.take k.1))),(6,.p (.int .i64) (k.1:Int))],[]⟩) (λk=>l.length-k.1) ⟨0,IN _⟩ (AC [] rfl rfl ?_ ?_) (λk=>?_)
 ·exact eN
 ·refine eM ?_;rfl
 ·obtain⟨k,hk⟩:=k;have hn:=Jw d (l.take k);have g:=oN k l;have hs:=λh:k<l.length=>FB (FX d) l ByteArray.empty [] h;simp only;repeat'(first|exact trivial|refine eS rfl ?_|refine AB ?_|refine rX c ?_ ?_|refine rC ?_ ?_<;>intro b<;>try(cases b;done))
  ·exact b
  ·exact⟨by assumption,by omega⟩
  ·exact eV
  ·have a:k<l.length:=by exact eV
   have e:Bg d (l.take (k+1))=FX d (Bg d (l.take k)) (l.getD k ByteArray.empty):=hs a;unfold FX at e;rw[BY b]at e;refine⟨⟨k+1,by omega⟩,by simp only;omega,AC [] rfl rfl ?_ ?_⟩
   ·exact eN
   ·simp only[e];exact eN
  ·exact eV
  ·have a:k<l.length:=by exact eV
   have e:Bg d (l.take (k+1))=FX d (Bg d (l.take k)) (l.getD k ByteArray.empty):=hs a;unfold FX at e;rw[An (ACk.2 b)]at e;refine⟨⟨k+1,by omega⟩,by simp only;omega,AC [] rfl rfl ?_ ?_⟩
   ·exact eN
   ·simp only[e];exact eN
  ·have a:l.take k=l:=At (by exact eV);rw[a];exact fI c [.tmp 4]
def vV (d:List AI) (all:List ByteArray) (i:Nat) (k:Nat):Bool:=(k:Int)==(i:Int)||!AZ (LD d (all.getD i ByteArray.empty)) (all.getD k ByteArray.empty)
def QM (d:List AI) (all:List ByteArray) (i n:Nat):Bool:=(List.range n).all (vV d all i)
def QN (d:List AI) (all:List ByteArray) (n:Nat):List ByteArray:=((List.range n).filter λi=>QM d all i all.length).map λi=>all.getD i ByteArray.empty
def A2 (d:List AI) (l:List ByteArray):List ByteArray:=QN d (Bg d l) (Bg d l).length
theorem zH (d:List AI) (all:List ByteArray) (n:Nat):QN d all (n+1)=QN d all n++if QM d all n all.length=true then [all.getD n ByteArray.empty] else []:=by
 unfold QN;rw[UJ,ADO,gO]
 congr 1
 rw[bY,AE2];split<;>rfl
theorem mZ (d:List AI) (all:List ByteArray) (n:Nat):(QN d all n).length<=n:=by
 unfold QN;rw[SX];exact Sd (aS _ _) (by simp)
theorem rO (d:List AI) (all:List ByteArray) (i n:Nat):QM d all i (n+1)=(QM d all i n&&vV d all i n):=by
 unfold QM;rw[UJ,AE4];simp
def MT:Ac:={ ins:=[FM,F4],pre:=λ(d,l,_)=>QK d/\List.length d<=256/\List.length l<=100000,out:=λ(d,l,_)=>[.p F4 (A2 d l)] }
attribute [local go_sem] MT
theorem V0:Ad Tryz.prog 206 MT:=by
 refine fK [0,1,4,5,6,7,8,9,10,17,29,47] Tryz.func206 Tryz.ntmps206 (AF mY (AF A3x (AF G2 AG))) ?_;rintro w0 O0 ⟨d,l,u⟩ c-⟨n,f,g⟩;have f:d.length<=256:=f;have g:l.length<=100000:=g;have m:A2 d l=QN d (Bg d l) (Bg d l).length:=rfl;have o:=Jw d l;simp only[MT,AM];repeat'(first|exact trivial|refine eS rfl ?_|refine rX c ?_ ?_)
 ·exact g
 ·rw[m];generalize Bg d l=all at *;refine AK (ι:={i:Nat//i<=all.length}) (λi=>⟨[(0,.p FM d),(5,.sr 54 T9 0 (QN d all i.1).length),(6,.p F4 all),(7,.p (.int .i64) (i.1:Int))],[(54,.arr 9 T9 (QN d all i.1))]⟩) (λi=>all.length-i.1) ⟨0,IN _⟩ (AC [(54,.nil)] rfl rfl ?_ ?_) (λi=>?_)
  ·refine eM ?_;rfl
  ·refine eM ?_;rfl
  ·obtain⟨i,hi⟩:=i;have q:=mZ d all i;have b:=zH d all i;simp only;repeat'(first|exact trivial|refine eS rfl ?_|refine rX c ?_ ?_|refine rC ?_ ?_<;>intro a<;>try(cases a;done))
   ·exact⟨a,n,f⟩
   ·have h:i<all.length:=by exact eV
    refine AK (ι:={k:Nat//k<=all.length}) (λk=>⟨[(0,.p FM d),(5,.sr 54 T9 0 (QN d all i).length),(6,.p F4 all),(7,.p (.int .i64) (i:Int)),(8,.p F4 (LD d (all.getD i ByteArray.empty))),(9,.p .bool (QM d all i k.1)),(10,.p (.int .i64) (k.1:Int))],[(54,.arr 9 T9 (QN d all i))]⟩) (λk=>all.length-k.1) ⟨0,IN _⟩ (AC [(54,.nm 54)] rfl rfl ?_ ?_) (λk=>?_)
    ·exact eN
    ·refine eM ?_;rfl
    ·obtain⟨k,hk⟩:=k;have j:=rO d all i k;simp only;repeat'(first|exact trivial|refine eS rfl ?_|refine AB ?_|refine rX c ?_ ?_|refine rC ?_ ?_<;>intro a<;>try(cases a;done))
     ·exact λ_=>a
     ·exact eV
     ·have e:k<all.length:=by exact eV
      refine⟨⟨k+1,by omega⟩,by simp only;omega,AC [(54,.nm 54)] rfl rfl ?_ ?_⟩
      ·exact eN
      ·simp only[j];unfold vV;exact eN
     ·refine⟨by assumption,?_⟩;simp only[AP];omega
     ·exact eV
     ·have e:k=all.length:=by exact eV
      subst e;rw[a,BY rfl]at b;refine⟨⟨i+1,by omega⟩,by simp only;omega,AC [(54,.nm 54)] rfl rfl ?_ ?_⟩
      ·simp only[b];exact eN
      ·simp only[b];exact eN
     ·exact eV
     ·have e:k=all.length:=by exact eV
      subst e;rw[a,An (by simp),Sq]at b;refine⟨⟨i+1,by omega⟩,by simp only;omega,AC [(54,.nm 54)] rfl rfl ?_ ?_⟩
      ·simp only[b];exact eN
      ·simp only[b];exact eN
   ·have h:i=all.length:=by exact eV
    subst h;refine F1 [54] ?_;exact fI c [.tmp 4]
end
section
attribute [local go_sem] LA
def zI (b:List Int) (x:Int):List Int:=b.set (x.tdiv 64).toNat (CA .or .u64 (b.getD (x.tdiv 64).toNat 0) (Tq .u64 1 (x.tmod 64)))
def ofL (l:List Int):List Int:=l.foldl zI (List.replicate 64 0)
def okB (x:Int):Bool:=!(decide (x<0)||decide (4095<x))
def ofF (l:List Int):List Int×Int:=if l.all okB=true then (BM (ofL l),0) else ([],2)
theorem QO (l:List Int):(ofL l).length=64:=by
 have key:∀(l b:List Int),(l.foldl zI b).length=b.length:=by
  intro l;induction l with
  | nil=>intro b;rfl
  | cons x l a =>
   intro b;rw[ON,a];simp[zI]
 unfold ofL;rw[key];simp
def ofS:Ac:={ ins:=[F3],pre:=λ_=>True,out:=λ(l,_)=>[.p BU (ofF l).1,.p Ls (ofF l).2] }
theorem ACp:Ad Tryz.prog 202 ofS:=by
 refine fK [0,2,3,4,5,10,24] Tryz.func202 Tryz.ntmps202 (AF NQ AG) ?_;rintro w0 O0 ⟨l,u⟩ c ⟨⟨g,-⟩,-⟩ -;simp only[AP]at g;simp only[ofS,AM];repeat'(first|exact trivial|refine eS rfl ?_|refine rX c ?_ ?_)
 ·simp only[AP];omega
 ·refine AK (ι:={k:Nat//k<=l.length/\(l.take k).all okB=true}) (λk=>⟨[(0,.p F3 l),(4,.sr 6 QH 0 (ofL (l.take k.1)).length),(5,.p (.int .i64) (k.1:Int))],[(6,.arr 186 QH (ofL (l.take k.1)))]⟩) (λk=>l.length-k.1) ⟨0,IN _,rfl⟩ (AC [(6,.nm 6)] rfl rfl ?_ ?_) (λk=>?_)
  ·refine eM ?_;rfl
  ·refine eM ?_;rfl
  ·obtain⟨k,hk,hf⟩:=k;have i:=QO (l.take k);have hs:∀h:k<l.length,ofL (l.take (k+1))=zI (ofL (l.take k)) (l.getD k 0):=λh=>FB zI l 0 _ h;simp only;repeat'(first|exact trivial|refine eS rfl ?_|refine AB ?_|refine rX c ?_ ?_|refine rC ?_ ?_<;>intro a<;>try(cases a;done))
   ·exact⟨a,λ_=>a⟩
   ·have b:k<l.length:=by exact eV
    have h1:ofF l=([],2):=by
     unfold ofF;rw[An];intro h;have:=IS.1 h _ (AE l 0 b);unfold okB at this;rw[SZ,iF,Of,Of]at this;rcases a with h|h
     ·exact this.1 h
     ·exact this.2 h
    exact fI c [.tmp 2,.tmp 3] (by rw[h1];exact eR)
   ·obtain⟨h0,h1⟩:=a;have d:Int.tdiv (l.getD k 0) 64=l.getD k 0 / 64:=oR h0;have f:Int.tmod (l.getD k 0) 64=l.getD k 0 % 64:=ADI h0;rw[d,f,i];refine⟨?_,⟨by decide,?_,?_⟩,?_,⟨by decide,?_,?_⟩,⟨?_,?_⟩,?_,⟨by decide,?_,?_⟩,⟨?_,?_⟩,?_,?_,?_⟩<;>exact eV
   ·exact eV
   ·have b:k<l.length:=by exact eV
    have e:=hs b;refine⟨⟨k+1,by omega,?_⟩,by simp only;omega,AC [(6,.nm 6)] rfl rfl ?_ ?_⟩
    ·rw[Gf l 0 _ b,hf,AER];unfold okB;rw[SZ,iF,Of,Of];exact⟨ACU.2 a.1,ACU.2 a.2⟩
    ·simp only[e];refine eM ?_;rfl
    ·simp only[e];refine eM ?_;rw[<-e,QO,QO]
   ·have b:l.take k=l:=At (by exact eV);rw[b]at hf ⊢;have h1:ofF l=(BM (ofL l),0):=by unfold ofF;rw[BY hf]
    have j:=QO l;refine F1 [6] ?_;repeat'(first|refine eS rfl ?_|refine rX c ?_ ?_)
    ·rw[j];decide
    ·exact fI c [.tmp 2,.tmp 3] (by rw[h1];exact eR)
end
section
attribute [local go_sem] Vx QI
def rQ (l:List (List Int)) (b:List Int):Bool:=l.any λx=>Hb x b
def A8H:Ac:={ ins:=[Tx,BU],pre:=λ_=>True,out:=λ(l,b,_)=>[.p .bool (rQ l b)],lend:=true }
theorem A8I:Ad Tryz.prog 203 A8H:=by
 refine fK [0,1,4,5,9,17] Tryz.func203 Tryz.ntmps203 (AF vT AG) ?_;rintro w0 O0 ⟨l,n,u⟩ a ⟨⟨e,-⟩,-⟩ -;simp only[AP]at e;simp only[A8H,AM];repeat'(first|exact trivial|refine eS rfl ?_|refine rX a ?_ ?_)
 refine AK (ι:={k:Nat//k<=l.length/\(l.take k).any (λx=>Hb x n)=false}) (λk=>⟨[(0,.p Tx l),(1,.p BU n),(5,.p (.int .i64) (k.1:Int))],[]⟩) (λk=>l.length-k.1) ⟨0,by simp⟩ (eW []) (λk=>?_)
 ·obtain⟨k,hk,c⟩:=k;repeat'(first|exact trivial|refine eS rfl ?_|refine AB ?_|refine rX a ?_ ?_|refine rC ?_ ?_<;>intro b<;>try(cases b;done))
  ·exact eV
  ·have d:k<l.length:=by exact eV
   have h1:rQ l n=true:=JL l [] _ d b;exact fI a [.tmp 4] (by rw[h1];exact eR)
  ·exact eV
  ·have d:k<l.length:=by exact eV
   refine⟨⟨k+1,by exact eV,?_⟩,by simp only;exact eV,AC [] rfl rfl ?_ ?_⟩
   ·rw[NP l [] _ d,c];exact b
   ·exact eN
   ·exact eN
  ·have hk:l.take k=l:=At (by exact eV);rw[hk]at c;have h1:rQ l n=false:=c;exact fI a [.tmp 4] (by rw[h1];exact eR)
abbrev AQ:=ByteArray×List Int
abbrev c0:AQ:=(ByteArray.empty,[])
def Lb (l:List AQ) (i j:Int):Bool:=FA (l.getD j.toNat c0).2 (l.getD i.toNat c0).2
def vW:Ac:={ ins:=[KG,T3,T3],pre:=λ(l,i,j,_)=>((0:Int)<=i/\i<(List.length l:Int))/\((0:Int)<=j/\j<(List.length l:Int))/\(∀x∈(l:List AQ),x.2.length<=100000),out:=λ(l,i,j,_)=>[.p .bool (Lb l i j)],lend:=true }
theorem vX:Ad Tryz.prog 166 vW:=by
 refine fK [0,1,2,6] Tryz.func166 Tryz.ntmps166 (AF Rq AG) ?_;rintro w0 O0 ⟨l,i,j,u⟩ a-⟨hi,b,c⟩;simp only[vW,AM];repeat'(first|exact trivial|refine eS rfl ?_|refine rX a ?_ ?_)
 ·exact⟨b,hi,c _ (AE (l:List AQ) c0 (by exact eV))⟩
 ·exact fI a [.tmp 6] (by unfold Lb;exact eR)
end
section
attribute [local go_sem] Vx
def MU (s:ByteArray):Nat->List AQ->Int
 | _,[]=>-1
 | k,x :: l=>if AY x.1 s=true then (k:Int) else MU s (k+1) l
def BN (l:List AQ) (s:ByteArray):Int:=MU s 0 l
theorem Y3 (s:ByteArray) (l:List AQ) {k:Nat} (h:k<l.length):MU s k (l.drop k)=if AY (l.getD k c0).1 s=true then (k:Int) else MU s (k+1) (l.drop (k+1)):=by
 rw[On h];have e:l.getD k c0=l[k]:=by simp[AS,h]
 rw[e];rfl
def Ud:Ac:={ ins:=[KG,T9],pre:=λ_=>True,out:=λ(l,s,_)=>[.p T3 (BN l s)],lend:=true }
theorem Y4:Ad Tryz.prog 168 Ud:=by
 refine fK [0,1,4,5,9,18] Tryz.func168 Tryz.ntmps168 AG ?_;rintro w0 O0 ⟨l,s,u⟩ c ⟨⟨d,-⟩,-⟩ -;simp only[AP]at d;simp only[Ud,AM];repeat'(first|exact trivial|refine eS rfl ?_|refine rX c ?_ ?_)
 refine AK (ι:={k:Nat//k<=l.length/\MU s k (l.drop k)=BN l s}) (λk=>⟨[(0,.p KG l),(1,.p T9 s),(5,.p (.int .i64) (k.1:Int))],[]⟩) (λk=>l.length-k.1) ⟨0,IN _,rfl⟩ (eW []) (λk=>?_)
 ·obtain⟨k,hk,hf⟩:=k;simp only;repeat'(first|exact trivial|refine eS rfl ?_|refine AB ?_|refine rX c ?_ ?_|refine rC ?_ ?_<;>intro b<;>try(cases b;done))
  ·exact b
  ·have a:k<l.length:=by exact eV
   rw[Y3 s l a,BY b]at hf;exact fI c [.tmp 4] (by rw[<-hf];exact eR)
  ·exact eV
  ·have a:k<l.length:=by exact eV
   rw[Y3 s l a,An (by rw[b];simp)]at hf;exact⟨⟨k+1,by omega,hf⟩,by simp only;omega,eW []⟩
  ·have a:l.drop k=[]:=By (by exact eV);rw[a]at hf;exact fI c [.tmp 4] (by rw[<-hf];first|exact eR|refine Xy ?_;rfl)
end
section
attribute [local go_sem] Vx LA
def QP (s:List Int):Nat->List AQ->Int
 | _,[]=>-1
 | k,x :: l=>if Hb x.2 s=true then (k:Int) else QP s (k+1) l
def HS (l:List AQ) (b:List Int):Int:=QP (BM b) 0 l
theorem WA (s:List Int) (l:List AQ) {k:Nat} (h:k<l.length):QP s k (l.drop k)=if Hb (l.getD k c0).2 s=true then (k:Int) else QP s (k+1) (l.drop (k+1)):=by
 rw[On h];have e:l.getD k c0=l[k]:=by simp[AS,h]
 rw[e];rfl
def rR:Ac:={ ins:=[KG,BU],pre:=λ(_,b,_)=>List.length b<=100000,out:=λ(l,b,_)=>[.p T3 (HS l b)],lend:=true }
theorem A3z:Ad Tryz.prog 159 rR:=by
 refine fK [0,1,4,5,6,12,21] Tryz.func159 Tryz.ntmps159 (AF NQ (AF vT AG)) ?_;rintro w0 O0 ⟨l,b,u⟩ d ⟨⟨g,-⟩,-⟩ e;simp only[AP]at g;simp only[rR,AM];repeat'(first|exact trivial|refine eS rfl ?_|refine rX d ?_ ?_)
 ·exact e
 ·have f:HS l b=QP (BM b) 0 l:=rfl;rw[f];generalize BM b=s at *;refine AK (ι:={k:Nat//k<=l.length/\QP s k (l.drop k)=QP s 0 l}) (λk=>⟨[(0,.p KG l),(5,.p BU s),(6,.p (.int .i64) (k.1:Int))],[]⟩) (λk=>l.length-k.1) ⟨0,IN _,rfl⟩ (eW []) (λk=>?_)
  ·obtain⟨k,hk,hf⟩:=k;simp only;repeat'(first|exact trivial|refine eS rfl ?_|refine AB ?_|refine rX d ?_ ?_|refine rC ?_ ?_<;>intro c<;>try(cases c;done))
   ·exact c
   ·have a:k<l.length:=by exact eV
    rw[WA s l a,BY c]at hf;exact fI d [.tmp 4] (by rw[<-hf];exact eR)
   ·exact eV
   ·have a:k<l.length:=by exact eV
    rw[WA s l a,An (by rw[c];simp)]at hf;exact⟨⟨k+1,by omega,hf⟩,by simp only;omega,eW []⟩
   ·have a:l.drop k=[]:=By (by exact eV);rw[a]at hf;exact fI d [.tmp 4] (by rw[<-hf];first|exact eR|refine Xy ?_;rfl)
end
section
attribute [local go_sem] Vx
def m5 (s:ByteArray):List (ByteArray×ByteArray)->ByteArray×Bool
 | []=>(ByteArray.empty,false)
 | x :: l=>if AY x.1 s=true then (x.2,true) else m5 s l
def DG (x:AI) (s:ByteArray):ByteArray×Bool:=m5 s x.2.2
theorem Y5 (s:ByteArray) (l:List (ByteArray×ByteArray)) {k:Nat} (h:k<l.length):m5 s (l.drop k)=if AY (l.getD k (ByteArray.empty,ByteArray.empty)).1 s=true then ((l.getD k (ByteArray.empty,ByteArray.empty)).2,true) else m5 s (l.drop (k+1)):=by
 rw[On h];have e:l.getD k (ByteArray.empty,ByteArray.empty)=l[k]:=by simp[AS,h]
 rw[e];rfl
def bU:Ac:={ ins:=[y5,T9],pre:=λ_=>True,out:=λ(x,s,_)=>[.p T9 (DG x s).1,.p .bool (DG x s).2],lend:=true }
theorem m6:Ad Tryz.prog 195 bU:=by
 refine fK [0,1,2,4,5,6,11,21] Tryz.func195 Tryz.ntmps195 AG ?_;rintro w0 O0 ⟨⟨nm,sup,a⟩,s,u⟩ d ⟨⟨-,-,f,-⟩,-⟩ -;simp only[AP]at f;simp only[bU,AM];repeat'(first|exact trivial|refine eS rfl ?_|refine rX d ?_ ?_)
 have e:({ data:=#[] }:ByteArray).size<=AP:=by decide
 rw[BY e];refine AK (ι:={k:Nat//k<=a.length/\m5 s (a.drop k)=DG (nm,sup,a) s}) (λk=>⟨[(1,.p T9 s),(2,.bp 2 [] 0),(6,.p (.int .i64) (k.1:Int))],[(2,.box 158 true [.p T9 nm,.p F4 sup,.p f2 a])]⟩) (λk=>a.length-k.1) ⟨0,IN _,rfl⟩ (eW [(2,.nm 2)]) (λk=>?_)
 ·obtain⟨k,hk,hf⟩:=k;simp only;repeat'(first|exact trivial|refine eS rfl ?_|refine AB ?_|refine rX d ?_ ?_|refine rC ?_ ?_<;>intro c<;>try(cases c;done))
  ·exact c
  ·assumption
  ·have b:k<a.length:=by exact eV
   rw[Y5 s a b,BY c]at hf;exact fI d [.tmp 4,.tmp 5] (by rw[<-hf];exact eR)
  ·exact eV
  ·have b:k<a.length:=by exact eV
   rw[Y5 s a b,An (by rw[c];simp)]at hf;exact⟨⟨k+1,by omega,hf⟩,by simp only;omega,eW [(2,.nm 2)]⟩
  ·have b:a.drop k=[]:=By (by exact eV);rw[b]at hf;rw[BY e];exact fI d [.tmp 4,.tmp 5] (by rw[<-hf];first|exact eR|refine Xy ?_;exact⟨rfl,rfl⟩)
end
section
attribute [local go_sem] rJ
def GC (a b:AQ):Bool:=decide (((IW b.2).length:Int)<((IW a.2).length:Int))||((IW a.2).length:Int)==((IW b.2).length:Int)&&HY a.1 b.1
def bV:Ac:={ ins:=[bJ,bJ],pre:=λ(a,b,_)=>List.length (a:AQ).2<=100000/\List.length (b:AQ).2<=100000,out:=λ(a,b,_)=>[.p .bool (GC a b)],lend:=true }
theorem zJ:Ad Tryz.prog 165 bV:=by
 refine fK [0,1,2,3,4,5,6] Tryz.func165 Tryz.ntmps165 (AF A3t AG) ?_;rintro w0 O0 ⟨⟨c,ac⟩,⟨e,d⟩,u⟩ a-⟨ha,b⟩;simp only[bV,AM];repeat'(first|exact trivial|refine eS rfl ?_|refine rX a ?_ ?_)
 ·exact ha
 ·exact b
 ·exact fI a [.tmp 4] (by unfold GC;exact eR)
end
section
attribute [local go_sem] bT Ju ofS
def Ow (low all:List ByteArray) (n:Nat):List Int:=((List.range n).filter λ(i:Nat)=>AZ low (all.getD i ByteArray.empty)).map λ(i:Nat)=>(i:Int)
theorem zK (low all:List ByteArray) (n:Nat):Ow low all (n+1)=Ow low all n++if AZ low (all.getD n ByteArray.empty)=true then [(n:Int)] else []:=by
 unfold Ow;rw[UJ,ADO,gO]
 congr 1
 rw[bY,AE2];split<;>rfl
theorem A3A (low all:List ByteArray) (n:Nat):(Ow low all n).length<=n:=by
 unfold Ow;rw[SX];exact Sd (aS _ _) (by simp)
def E1 (d:List AI) (all:List ByteArray) (s:ByteArray):List Int:=(ofF (Ow (Ck d s) all all.length)).1
def A3B:Ac:={ ins:=[FM,F4,T9],pre:=λ(d,l,_,_)=>List.length d<=256/\List.length l<=100000,out:=λ(d,l,s,_)=>[.p BU (E1 d l s)] }
theorem A6k:Ad Tryz.prog 162 A3B:=by
 refine fK [0,1,2,6,7,8,9,10,18,26] Tryz.func162 Tryz.ntmps162 (AF A3y (AF G2 (AF ACp AG))) ?_;rintro w0 O0 ⟨d,l,s,u⟩ b-⟨g,e⟩;have e:l.length<=100000:=e;have f:E1 d l s=(ofF (Ow (Ck d s) l l.length)).1:=rfl;simp only[A3B,AM];repeat'(first|exact trivial|refine eS rfl ?_|refine rX b ?_ ?_)
 ·exact g
 ·rw[f];generalize Ck d s=low at *;refine AK (ι:={n:Nat//n<=l.length}) (λn=>⟨[(0,.p FM d),(1,.p F4 l),(2,.p T9 s),(7,.p F4 low),(8,.sr 30 T3 0 (Ow low l n.1).length),(9,.p (.int .i64) (n.1:Int))],[(30,.arr 3 T3 (Ow low l n.1))]⟩) (λn=>l.length-n.1) ⟨0,IN _⟩ (AC [(30,.nil)] rfl rfl ?_ ?_) (λn=>?_)
  ·refine eM ?_;rfl
  ·refine eM ?_;rfl
  ·obtain⟨n,hn⟩:=n;have h:=A3A low l n;have hs:=zK low l n;simp only;repeat'(first|exact trivial|refine eS rfl ?_|refine AB ?_|refine rX b ?_ ?_|refine rC ?_ ?_<;>intro a<;>try(cases a;done))
   ·exact a
   ·rw[a,BY rfl]at hs;simp only[AP];dsimp only[Ty.den]at *;omega
   ·exact eV
   ·have c:n<l.length:=by exact eV
    rw[a,BY rfl]at hs;refine⟨⟨n+1,by omega⟩,by simp only;omega,AC [(30,.nm 30)] rfl rfl ?_ ?_⟩
    ·simp only[hs];exact eN
    ·simp only[hs];exact eN
   ·exact eV
   ·have c:n<l.length:=by exact eV
    rw[a,An (by simp),Sq]at hs;refine⟨⟨n+1,by omega⟩,by simp only;omega,AC [(30,.nm 30)] rfl rfl ?_ ?_⟩
    ·simp only[hs];exact eN
    ·simp only[hs];exact eN
   ·have c:n=l.length:=by exact eV
    subst c;refine F1 [30] ?_;repeat'(first|exact trivial|refine eS rfl ?_|refine rX b ?_ ?_)
    exact fI b [.tmp 6]
end
section
attribute [local go_sem] bK
def QQ (o:List ByteArray) (f:ByteArray×ByteArray):List ByteArray:=Ec o f.1
def Rv (o:List ByteArray) (x:AI):List ByteArray:=x.2.2.foldl QQ o
def BO (d:List AI):List ByteArray:=d.foldl Rv []
theorem Y6 (l:List (ByteArray×ByteArray)):∀o:List ByteArray,(l.foldl QQ o).length<=o.length+l.length:=by
 induction l with
 | nil=>intro o;simp
 | cons x l a =>
  intro o;have h1:=a (QQ o x);have b:(QQ o x).length<=o.length+1:=MR o x.1;simp only[ON,OS];omega
theorem rS {d:List AI} (h:∀x∈d,x.2.2.length<=256):∀(l:List AI),(∀x∈l,x∈d)->∀o:List ByteArray,(l.foldl Rv o).length<=o.length+256*l.length:=by
 intro l;induction l with
 | nil=>intro _ o;simp
 | cons x l c =>
  intro a o;have h1:=c (λy b=>a y (by simp[b])) (Rv o x);have e:=Y6 x.2.2 o;have f:=h x (a x (by simp));have g:(Rv o x).length=(x.2.2.foldl QQ o).length:=rfl;simp only[ON,OS];omega
def WB:Ac:={ ins:=[FM],pre:=λ(d,_)=>List.length d<=256/\(∀x∈(d:List AI),x.2.2.length<=256),out:=λ(d,_)=>[.p F4 (BO d)] }
theorem WC:Ad Tryz.prog 157 WB:=by
 refine fK [0,2,3,4,5,9,19] Tryz.func157 Tryz.ntmps157 (AF Ro AG) ?_;rintro w0 O0 ⟨d,u⟩ c-⟨f,m⟩;have f:d.length<=256:=f;simp only[WB,AM];repeat'(first|exact trivial|refine eS rfl ?_|refine rX c ?_ ?_)
 refine AK (ι:={i:Nat//i<=d.length}) (λi=>⟨[(0,.p FM d),(3,.p F4 (BO (d.take i.1))),(4,.p (.int .i64) (i.1:Int))],[]⟩) (λi=>d.length-i.1) ⟨0,IN _⟩ (AC [] rfl rfl ?_ ?_) (λi=>?_)
 ·exact eN
 ·refine eM ?_;rfl
 ·obtain⟨i,hi⟩:=i;have l:=rS m (d.take i) (λx h=>dO h) [];have t:=oN i d;have hs:=λh:i<d.length=>FB Rv d d0 [] h;have g:∀e,BO e=e.foldl Rv []:=λ_=>rfl;simp only;repeat'(first|exact trivial|refine eS rfl ?_|refine rX c ?_ ?_|refine rC ?_ ?_<;>intro a<;>try(cases a;done))
  ·have j:i<d.length:=by exact eV
   have v:=m _ (AE d d0 j);have hs:=hs j;rw[<-g,<-g]at hs;rw[<-g]at l;generalize BO (d.take i)=o at *;refine AK (ι:={k:Nat//k<=(d.getD i d0).2.2.length}) (λk=>⟨[(0,.p FM d),(3,.p F4 (((d.getD i d0).2.2.take k.1).foldl QQ o)),(4,.p (.int .i64) (i:Int)),(5,.p (.int .i64) (k.1:Int))],[]⟩) (λk=>(d.getD i d0).2.2.length-k.1) ⟨0,IN _⟩ (AC [] rfl rfl ?_ ?_) (λk=>?_)
   ·exact eN
   ·refine eM ?_;rfl
   ·obtain⟨k,hk⟩:=k;have r:k<=(d.getD i d0).2.2.length:=hk;have q:=Y6 ((d.getD i d0).2.2.take k) o;have s:=oN k (d.getD i d0).2.2;have n:=λh:k<(d.getD i d0).2.2.length=>FB QQ (d.getD i d0).2.2 (ByteArray.empty,ByteArray.empty) o h;simp only;repeat'(first|refine eS rfl ?_|refine AB ?_|refine rX c ?_ ?_|refine rC ?_ ?_<;>intro a<;>try(cases a;done))
    ·assumption
    ·refine⟨by assumption,a,?_⟩;simp only[AD7]at l;dsimp only[Ty.den]at *;omega
    ·have h1:(k:Int)<((d.getD i d0).2.2.length:Int):=a;exact eV
    ·have b:k<(d.getD i d0).2.2.length:=If.1 a;have e:=n b;refine⟨⟨k+1,b⟩,by simp only;omega,AC [] rfl rfl ?_ ?_⟩
     ·exact eN
     ·simp only[e];unfold QQ;exact eN
    ·have:=f;exact eV
    ·have b:(d.getD i d0).2.2.take k=(d.getD i d0).2.2:=At (Sb.1 a);have e:BO (d.take (i+1))=((d.getD i d0).2.2.take k).foldl QQ o:=by rw[b];exact hs
     refine⟨⟨i+1,j⟩,by simp only;omega,AC [] rfl rfl ?_ ?_⟩
     ·exact eN
     ·simp only[e];exact eN
  ·have b:d.take i=d:=At (by exact eV);rw[b];exact fI c [.tmp 2]
end
theorem Y7 {d:List AI} {l:List ByteArray}:∀ {r:List ByteArray} {k:Nat},UA d l k r=0->∀s∈r,0<=Ap d s
 | [],_,_,s,hs=>by cases hs
 | x :: r,k,h,s,hs=>by
  simp only[UA]at h;split at h
  ·cases h
  ·rename_i h1;split at h
   ·cases h
   ·rcases Do.1 hs with rfl|hs
    ·omega
    ·exact Y7 h s hs
theorem QR {d:List AI}:∀ {l:List AI},LB d l=0->∀x∈l,∀s∈x.2.1,0<=Ap d s
 | [],_,x,a=>by cases a
 | y :: l,h,x,a=>by
  simp only[LB]at h;split at h
  ·rename_i h1;exact absurd h h1
  ·rename_i h1;rcases Do.1 a with rfl|a
   ·exact Y7 (DO h1)
   ·exact QR h x a
theorem A3C {d:List AI} (h:LC d=0):QK d:=QR h
theorem Ay {d:List AI} (h:A5 d=0):QK d/\d.length<=256/\IZ d=1/\Ci d=0/\d.length<=(Bl d).length:=by
 unfold A5 at h;split at h
 ·rename_i h1;exact absurd h h1
 ·rename_i h1;split at h
  ·rename_i a;exact absurd h a
  ·rename_i a;split at h
   ·rename_i b;exact absurd h b
   ·rename_i b;split at h
    ·cases h
    ·rename_i c;split at h
     ·cases h
     ·rename_i e;exact⟨A3C (DO b),TK (DO h1),DO c,DO a,by omega⟩
section
attribute [local go_sem] A8H A3p
def Gg (l:List (List Int)) (i k:Nat):List (List Int) :=
 if (decide (0<((Ek (l.getD i []) (l.getD k [])).length:Int))&&!rQ l (Ek (l.getD i []) (l.getD k [])))=true then l++[Ek (l.getD i []) (l.getD k [])] else l
def Gh (i:Nat):Nat->Nat->List (List Int)->List (List Int)
 | 0,_,l=>l
 | n+1,k,l=>if l.length<=256 then Gh i n (k+1) (Gg l i k) else l
def Ib:Nat->Nat->List (List Int)->List (List Int)
 | 0,_,l=>l
 | n+1,i,l=>if i<l.length/\l.length<=256 then Ib n (i+1) (Gh i i 0 l) else l
def Au (c:List (List Int)):List (List Int):=Ib 257 0 c
theorem m7 (a b:List Int):(Ek a b).length<=a.length:=by
 unfold Ek BM;have:=E0 .and a b a.length;rw[OR];omega
structure A7W (l:List (List Int)):Prop where
 len:l.length<=257
 wid:∀c∈l,c.length<=64
theorem MV {l:List (List Int)} (h:∀c∈l,c.length<=64) (k:Nat):(l.getD k []).length<=64:=by
 rw[AS];cases hh:l[k]? with
 | none=>simp
 | some x=>exact h x (f3 hh)
theorem m8 {l:List (List Int)} (h:∀c∈l,c.length<=64) (i k:Nat):∀c∈Gg l i k,c.length<=64:=by
 unfold Gg;split
 ·intro c a;rcases No.1 a with a|a
  ·exact h c a
  ·have:c=Ek (l.getD i []) (l.getD k []):=by simpa using a
   rw[this];exact Sd (m7 _ _) (MV h i)
 ·exact h
theorem A3D (l:List (List Int)) (i k:Nat):l.length<=(Gg l i k).length/\(Gg l i k).length<=l.length+1:=by
 unfold Gg;split
 ·simp
 ·exact⟨NO _,Nat.le_succ _⟩
def bW:Ac:={ ins:=[Tx],pre:=λ(c,_)=>List.length c<=256/\∀x∈(c:List (List Int)),x.length<=64,out:=λ(c,_)=>[.p Tx (Au c)] }
theorem zL:Ad Tryz.prog 163 bW:=by
 refine fK [0,2,3,4,5,6,18,28,48] Tryz.func163 Tryz.ntmps163 (AF A3q (AF A8I AG)) ?_;rintro w0 O0 ⟨c,u⟩ d-⟨n,t⟩;have n:c.length<=256:=n;simp only[bW,AM];repeat'(first|exact trivial|refine eS rfl ?_|refine rX d ?_ ?_)
 ·simp only[AP];dsimp only[Ty.den]at *;omega
 ·refine AK (ι:={x:Nat×List (List Int)//x.1<=256/\A7W x.2/\Ib (257-x.1) x.1 x.2=Au c}) (λx=>⟨[(3,.sr 7 BU 0 x.1.2.length),(4,.p (.int .i64) (x.1.1:Int))],[(7,.arr 140 BU x.1.2)]⟩) (λx=>257-x.1.1) ⟨(0,c),by simp,⟨by simp only;omega,t⟩,rfl⟩ (eW [(7,.nm 7)]) (λx=>?_)
  ·obtain⟨⟨i,l⟩,hi,⟨q,s⟩,f⟩:=x;simp only at hi q s f;simp only;repeat'(first|exact trivial|refine eS rfl ?_|refine rX d ?_ ?_|refine rC ?_ ?_<;>intro a<;>try(cases a;done))
   ·have w:i<l.length:=by omega
    have z:l.length<=256:=by omega
    have o:Ib (256-i) (i+1) (Gh i i 0 l)=Au c:=by
     have e:257-i=(256-i)+1:=by omega
     rw[<-f,e];show _=if i<l.length/\l.length<=256 then Ib (256-i) (i+1) (Gh i i 0 l) else l
     rw[BY ⟨w,z⟩]
    refine AK (ι:={y:Nat×List (List Int)//y.1<=i/\A7W y.2/\l.length<=y.2.length/\Gh i (i-y.1) y.1 y.2=Gh i i 0 l}) (λy=>⟨[(3,.sr 7 BU 0 y.1.2.length),(4,.p (.int .i64) (i:Int)),(5,.p (.int .i64) (y.1.1:Int))],[(7,.arr 140 BU y.1.2)]⟩) (λy=>i-y.1.1) ⟨(0,l),by simp,⟨q,s⟩,NO _,rfl⟩ (eW [(7,.nm 7)]) (λy=>?_)
    ·obtain⟨⟨k,m⟩,hk,⟨g,b⟩,r,hf⟩:=y;simp only at hk g b r hf;simp only;repeat'(first|exact trivial|refine eS rfl ?_|refine AB ?_|refine rX d ?_ ?_|refine rC ?_ ?_<;>intro a<;>try(cases a;done))
     ·exact⟨by exact eV,by exact eV,Sd (MV b i) (by decide)⟩
     ·simp only[AP];omega
     ·omega
     ·have e:Gg m i k=m++[Ek (m.getD i []) (m.getD k [])]:=by
       unfold Gg;rw[BY];rw[AT,Fj,SZ];exact a
      have C:=m8 b i k;have D:=A3D m i k;refine⟨⟨(k+1,Gg m i k),by simp only;omega,⟨by simp only;omega,C⟩,by simp only;omega,?_⟩,by simp only;omega,AC [(7,.nm 7)] rfl rfl ?_ ?_⟩
      ·simp only;rw[<-hf,show i-k=(i-(k+1))+1 by omega];show _=if m.length<=256 then Gh i (i-(k+1)) (k+1) (Gg m i k) else m
       rw[BY (by omega)]
      ·simp only[e];exact eN
      ·simp only[e];exact eN
     ·omega
     ·have e:Gg m i k=m:=by
       unfold Gg;rw[An];rw[AT,Fj,SZ];intro h;rw[a h.1]at h;exact absurd h.2 (by simp)
      refine⟨⟨(k+1,m),by simp only;omega,⟨g,b⟩,r,?_⟩,by simp only;omega,AC [(7,.nm 7)] rfl rfl ?_ ?_⟩
      ·simp only;rw[<-hf,show i-k=(i-(k+1))+1 by omega];show _=if m.length<=256 then Gh i (i-(k+1)) (k+1) (Gg m i k) else m
       rw[BY (by omega),e]
      ·exact eN
      ·exact eN
     ·omega
     ·have B:m=Gh i i 0 l:=by
       rw[<-hf];cases A:i-k with
       | zero=>rfl
       | succ j =>
        show _=if m.length<=256 then _ else m
        rw[An (by omega)]
      rw[<-B]at o;refine⟨⟨(i+1,m),by simp only;omega,⟨g,b⟩,?_⟩,by simp only;omega,AC [(7,.nm 7)] rfl rfl ?_ ?_⟩
      ·simp only;rw[show 257-(i+1)=256-i by omega];exact o
      ·exact eN
      ·exact eN
   ·have v:l=Au c:=by
     rw[<-f];cases A:257-i with
     | zero=>rfl
     | succ m =>
      show _=if i<l.length/\l.length<=256 then _ else l
      rw[An (by omega)]
    rw[<-v];refine F1 [7] ?_;exact fI d [.tmp 2]
theorem cs0 {α:Type} (x y:α):(if ({ data:=#[] }:ByteArray).size<=AP then x else y)=x:=BY (by show 0<=AP;decide)
theorem cs1 {α:Type} (a:UInt8) (x y:α):(if ({ data:=#[a] }:ByteArray).size<=AP then x else y)=x:=BY (by show 1<=AP;decide)
theorem cs2 {α:Type} (a b:UInt8) (x y:α):(if ({ data:=#[a,b] }:ByteArray).size<=AP then x else y)=x:=BY (by show 2<=AP;decide)
theorem cs3 {α:Type} (a b c:UInt8) (x y:α):(if ({ data:=#[a,b,c] }:ByteArray).size<=AP then x else y)=x:=BY (by show 3<=AP;decide)
theorem cs4 {α:Type} (a b c d:UInt8) (x y:α):(if ({ data:=#[a,b,c,d] }:ByteArray).size<=AP then x else y)=x:=BY (by show 4<=AP;decide)
theorem cs5 {α:Type} (a b c d e:UInt8) (x y:α):(if ({ data:=#[a,b,c,d,e] }:ByteArray).size<=AP then x else y)=x:=BY (by show 5<=AP;decide)
theorem cs6 {α:Type} (a b c d e f:UInt8) (x y:α):(if ({ data:=#[a,b,c,d,e,f] }:ByteArray).size<=AP then x else y)=x:=BY (by show 6<=AP;decide)
theorem cs7 {α:Type} (a b c d e f g:UInt8) (x y:α):(if ({ data:=#[a,b,c,d,e,f,g] }:ByteArray).size<=AP then x else y)=x:=BY (by show 7<=AP;decide)
theorem cs8 {α:Type} (a b c d e f g h:UInt8) (x y:α):(if ({ data:=#[a,b,c,d,e,f,g,h] }:ByteArray).size<=AP then x else y)=x:=BY (by show 8<=AP;decide)
end
def BE (b:List Int) (i:Nat):Bool:=(b.getD (i / 64) 0).toNat.testBit (i % 64)
def U64 (x:Int):Prop:=0<=x/\x<18446744073709551616
theorem Fv {x:Int} (h:U64 x):(BitVec.ofInt 64 x).toNat=x.toNat:=by
 rw[BitVec.toNat_ofInt];have h1:=h.1;have a:=h.2;rw[Int.emod_eq_of_lt h1 (by simpa using a)]
theorem QT {n:Nat} (h:n<18446744073709551616):IntKind.u64.wrap (n:Int)=n:=Kn (by rw[Hn];omega)
theorem A6l {x y:Int} (a:U64 x) (b:U64 y):CA .or .u64 x y=((x.toNat ||| y.toNat:Nat):Int):=by
 have h1:(BitVec.ofInt IntKind.u64.bits x ||| BitVec.ofInt IntKind.u64.bits y).toNat=x.toNat ||| y.toNat:=by
  rw[BitVec.toNat_or];show (BitVec.ofInt 64 x).toNat ||| (BitVec.ofInt 64 y).toNat=_
  rw[Fv a,Fv b]
 unfold CA;simp only;rw[h1];have e:(18446744073709551616:Nat)=2 ^ 64:=by decide
 refine QT ?_;rw[e];refine Nat.or_lt_two_pow ?_ ?_
 ·have:=a.2;have:=a.1;omega
 ·have:=b.2;have:=b.1;omega
theorem Ic {x y:Int} (a:U64 x) (b:U64 y):CA .and .u64 x y=((x.toNat &&& y.toNat:Nat):Int):=by
 have h1:(BitVec.ofInt IntKind.u64.bits x &&& BitVec.ofInt IntKind.u64.bits y).toNat=x.toNat &&& y.toNat:=by
  rw[BitVec.toNat_and];show (BitVec.ofInt 64 x).toNat &&& (BitVec.ofInt 64 y).toNat=_;rw[Fv a,Fv b]
 unfold CA;simp only;rw[h1];refine QT (AEB AEy ?_);have:=a.2;have:=a.1;omega
theorem Rw {x y:Int}:CA .andNot .u64 x y=((BitVec.ofInt 64 x &&& ~~~BitVec.ofInt 64 y).toNat:Int):=by
 show IntKind.u64.wrap ((BitVec.ofInt 64 x &&& ~~~BitVec.ofInt 64 y).toNat:Int)=_;exact QT (BitVec.isLt _)
theorem TL {x y:Int} (d:U64 x) (e:U64 y) (h:CA .andNot .u64 x y=0) {r:Nat} (c:r<64) (b:x.toNat.testBit r=true):y.toNat.testBit r=true:=by
 rw[Rw]at h;have h1:(BitVec.ofInt 64 x &&& ~~~BitVec.ofInt 64 y).toNat=0:=by omega
 have a:(BitVec.ofInt 64 x &&& ~~~BitVec.ofInt 64 y).toNat.testBit r=false:=by rw[h1];exact Nat.zero_testBit r
 rw[ADS,BitVec.getLsbD_and,BitVec.getLsbD_not,<-ADS,<-ADS,Fv d,Fv e,b]at a;simpa[c] using a
theorem TM {x:Int}:CA .andNot .u64 x x=0:=by
 rw[Rw];simp
theorem Ox {b:List Int}:∀ {n:Nat},∀k,Cf b n<=k->k<n->b.getD k 0=0
 | 0,k,_,h=>by omega
 | n+1,k,h1,c=>by
  unfold Cf at h1;split at h1
  ·rename_i a;by_cases hk:k=n
   ·rw[hk];exact a
   ·exact Ox k h1 (by omega)
  ·omega
theorem QU (b:List Int) (k:Nat):(BM b).getD k 0=b.getD k 0:=by
 unfold BM;by_cases h:k<Cf b b.length
 ·simp[AS,Sr,h]
 ·have h1:(List.take (Cf b b.length) b).getD k 0=0:=by
   rw[AS,Sr,An h];rfl
  rw[h1];by_cases a:k<b.length
  ·exact(Ox k (by omega) a).symm
  ·rw[AS,Sj (by omega)];rfl
theorem Oy (b:List Int) (i:Nat):BE (BM b) i=BE b i:=by unfold BE;rw[QU]
def Id (b:List Int):Prop:=∀x∈b,U64 x
theorem BJ {b:List Int} (h:Id b) (k:Nat):U64 (b.getD k 0):=by
 rw[AS];cases hh:b[k]? with
 | none=>exact⟨by simp,by simp⟩
 | some x=>exact h x (f3 hh)
theorem Oz {b:List Int} (h:Id b):Id (BM b):=λx a=>h x (dO a)
theorem H5 (b:List Int) (k:Nat):GQ b (k:Int)=b.getD k 0:=by
 unfold GQ;split
 ·simp
 ·rename_i h;rw[AS,Sj (by omega)];rfl
theorem NR (op:BinOp) (a b:List Int) {n k:Nat} (h:k<n):(Ge op a b n).getD k 0=CA op .u64 (a.getD k 0) (b.getD k 0):=by
 unfold Ge;rw[AS,iS,ADt h];show CA op .u64 (a.getD k 0) (GQ b (k:Int))=_;rw[H5]
theorem bX {a b:List Int} (h:FA a b=true) {k:Nat} (hk:k<a.length):CA .andNot .u64 (a.getD k 0) (b.getD k 0)=0:=by
 unfold FA Rp BM at h;have h1:(List.take (Cf (Ge .andNot a b a.length) (Ge .andNot a b a.length).length) (Ge .andNot a b a.length)).length=0:=by
  have:=UH.1 h;omega
 rw[OR,E0]at h1;have d:=Vv (Ge .andNot a b a.length) a.length;have c:=Ox (b:=Ge .andNot a b a.length) (n:=a.length) k (by omega) hk;rw[NR _ _ _ hk]at c;exact c
theorem MW {a b:List Int} (ha:Id a) (c:Id b) (h:FA a b=true) {i:Nat} (hi:BE a i=true):BE b i=true:=by
 by_cases hk:i / 64<a.length
 ·exact TL (BJ ha _) (BJ c _) (bX h hk) (AF0 _ (by decide)) hi
 ·exfalso;unfold BE at hi;rw[AS,Sj (by omega)]at hi;simp at hi
theorem Rx {b:List Int}:∀ {n:Nat},(∀k,k<n->b.getD k 0=0)->Cf b n=0
 | 0,_=>rfl
 | n+1,h=>by
  unfold Cf;rw[BY (h n (by omega))];exact Rx λk hk=>h k (by omega)
theorem m9 (a:List Int):FA a a=true:=by
 unfold FA Rp BM;have h1:Cf (Ge .andNot a a a.length) (Ge .andNot a a a.length).length=0:=by
  rw[E0];exact Rx λk hk=>by rw[NR _ _ _ hk];exact TM
 rw[h1];rfl
theorem nA (a:List Int):DP a a=true:=by unfold DP;rw[m9];rfl
theorem A6m {b:List Int} (j:Id b) (l:b.length=64) {x:Int} (h0:0<=x) (h1:x<=4095) (i:Nat):BE (zI b x) i=(BE b i||decide (x=(i:Int))):=by
 have d:Int.tdiv x 64=x / 64:=oR h0;have e:Int.tmod x 64=x % 64:=ADI h0;obtain⟨n,rfl⟩:∃n:Nat,x=(n:Int):=⟨x.toNat,by omega⟩;have hs:Tq .u64 1 ((n:Int) % 64)=((2 ^ (n % 64):Nat):Int):=by
  unfold Tq;have f:min ((n:Int) % 64).toNat IntKind.u64.bits=n % 64:=by
   have:((n:Int) % 64).toNat=n % 64:=by omega
   rw[this];have:IntKind.u64.bits=64:=rfl;omega
  rw[f,Int.one_mul];have:(2:Int) ^ (n % 64)=((2 ^ (n % 64):Nat):Int):=by simp
  rw[this];refine QT ?_;have a:(2:Nat) ^ (n % 64)<2 ^ 64:=Nat.pow_lt_pow_right (by decide) (AF0 _ (by decide));exact a
 have hu:U64 (Tq .u64 1 ((n:Int) % 64)):=by
  rw[hs];have a:(2:Nat) ^ (n % 64)<2 ^ 64:=Nat.pow_lt_pow_right (by decide) (AF0 _ (by decide));have g:(2:Nat) ^ 64=18446744073709551616:=by decide
  refine⟨oF _,?_⟩;rw[g]at a;exact If.2 a
 have hn:((n:Int) / 64).toNat=n / 64:=by omega
 unfold zI BE;rw[d,e,hn];by_cases c:i / 64=n / 64
 ·have k:n / 64<b.length:=by omega
  rw[c];have:(b.set (n / 64) (CA .or .u64 (b.getD (n / 64) 0) (Tq .u64 1 ((n:Int) % 64)))).getD (n / 64) 0=CA .or .u64 (b.getD (n / 64) 0) (Tq .u64 1 ((n:Int) % 64)):=by
   simp[AS,k]
  rw[this,A6l (BJ j _) hu,hs];simp only[Se,Nat.testBit_or,Nat.testBit_two_pow]
  congr 1
  rw[decide_eq_decide];omega
 ·have:(b.set (n / 64) (CA .or .u64 (b.getD (n / 64) 0) (Tq .u64 1 ((n:Int) % 64)))).getD (i / 64) 0=b.getD (i / 64) 0:=by
   simp[AS,ACY,Ne.symm c]
  rw[this];have:decide ((n:Int)=(i:Int))=false:=by
   rw[Of];intro h;exact c (by omega)
  rw[this,Bool.or_false]
theorem A6n {b:List Int} (c:Id b) (x:Int):Id (zI b x):=by
 intro y a;unfold zI at a;rcases ADu a with h|h
 ·exact c y h
 ·rw[h];have:=M8 .u64 ((BitVec.ofInt IntKind.u64.bits (b.getD (x.tdiv 64).toNat 0) ||| BitVec.ofInt IntKind.u64.bits (Tq .u64 1 (x.tmod 64))).toNat:Int);rw[Hn]at this;exact⟨this.1,by have:=this.2;show _<_;exact AEJ this (by decide)⟩
theorem A6o {l:List Int} (h:l.all okB=true) (i:Nat):BE (ofL l) i=decide ((i:Int)∈l)/\Id (ofL l):=by
 have key:∀(l b:List Int),l.all okB=true->Id b->b.length=64->BE (l.foldl zI b) i=(BE b i||decide ((i:Int)∈l))/\Id (l.foldl zI b):=by
  intro l;induction l with
  | nil=>intro b _ a _;simp[a]
  | cons x l m =>
   intro b c a d;rw[ADv,AT]at c;have e:=c.1;unfold okB at e;rw[SZ,iF,Of,Of]at e;obtain⟨f,g⟩:=m (zI b x) c.2 (A6n a x) (by simp[zI,d]);rw[ON];refine⟨?_,g⟩;rw[f,A6m a d (by omega) (by omega),Bool.or_assoc]
   congr 1
   rw[<-Bool.decide_or,decide_eq_decide,Do,eq_comm]
 have j:Id (List.replicate 64 (0:Int)):=by
  intro y k;rw[(List.mem_replicate.1 k).2];exact⟨by decide,by decide⟩
 have h1:=key l (List.replicate 64 0) h j (by simp);refine⟨?_,h1.2⟩;unfold ofL;rw[h1.1];have:BE (List.replicate 64 (0:Int)) i=false:=by
  unfold BE;have:(List.replicate 64 (0:Int)).getD (i / 64) 0=0:=by
   rw[AS,ADC];split<;>rfl
  rw[this];simp
 rw[this,AES]
theorem A3F {low all:List ByteArray} {n i:Nat}:((i:Int)∈Ow low all n)↔i<n/\AZ low (all.getD i ByteArray.empty)=true:=by
 unfold Ow;rw[IF];constructor
 ·rintro⟨j,a,e⟩;have:j=i:=by omega
  subst this;rw[ACV,Sl]at a;exact a
 ·rintro⟨h1,b⟩;exact⟨i,by rw[ACV,Sl];exact⟨h1,b⟩,rfl⟩
theorem A6p {low all:List ByteArray} {n:Nat} (hn:n<=4096):(Ow low all n).all okB=true:=by
 rw[IS];intro x a;unfold Ow at a;obtain⟨j,b,rfl⟩:=IF.1 a;rw[ACV,Sl]at b;unfold okB;rw[SZ,iF,Of,Of];exact⟨by omega,by omega⟩
theorem B5 {d:List AI} {all:List ByteArray} (c:all.length<=4096) (s:ByteArray) (i:Nat):(BE (E1 d all s) i=true↔i<all.length/\AZ (Ck d s) (all.getD i ByteArray.empty)=true)/\Id (E1 d all s)/\(E1 d all s).length<=64:=by
 have h1:=A6p (low:=Ck d s) (all:=all) c;have b:=A6o h1 i;have a:E1 d all s=BM (ofL (Ow (Ck d s) all all.length)):=by
  unfold E1 ofF;rw[BY h1]
 refine⟨?_,?_,?_⟩
 ·rw[a,Oy,b.1,Fj,A3F]
 ·rw[a];exact Oz b.2
 ·rw[a];unfold BM;have:=QO (Ow (Ck d s) all all.length);rw[OR];omega
theorem JO (d:List AI) {s t:ByteArray} (h:AY s t=true):Ap d s=Ap d t:=by
 have key:∀(l:List AI) (k:Nat),Ct s k l=Ct t k l:=by
  intro l;induction l with
  | nil=>intro k;rfl
  | cons x l a =>
   intro k;simp only[Ct];have:AY x.1 s=AY x.1 t:=by grind [AY,BZ,D5]
   rw[this,a]
 exact key d 0
theorem BC {α:Type} {l:List α} {d:α} {k:Nat} (h:k<l.length):l.getD k d∈l:=by grind
theorem CV {α:Type} {l:List α} (d:α) {x:α} (h:x∈l):∃k,k<l.length/\l.getD k d=x:=by
 obtain⟨k,hk,e⟩:=ACm.1 h;exact⟨k,hk,by rw[AS,As hk];exact e⟩
theorem JP {d:List AI}:∀ {r:List AI} {k:Nat},Ou d k r=0->∀j,j<r.length->¬Ap d (r.getD j d0).1<((k+j:Nat):Int)/\Ez (r.getD j d0).1 false=true
 | [],_,_,j,a=>by simp at a
 | x :: r,k,h,j,a=>by
  simp only[Ou]at h;split at h
  ·cases h
  ·rename_i h1;split at h
   ·cases h
   ·rename_i b;cases j with
    | zero=>exact⟨b,by simpa using h1⟩
    | succ j =>
     have:=JP h j (by simpa using a);have e:k+(j+1)=k+1+j:=by omega
     rw[e];exact this
theorem QV (s:ByteArray):∀(l:List AI) (k j:Nat),j<l.length->AY (l.getD j d0).1 s=true->Ct s k l<=((k+j:Nat):Int)
 | [],_,j,h,_=>by simp at h
 | x :: l,k,j,h,e=>by
  simp only[Ct];split
  ·omega
  ·rename_i h1;cases j with
   | zero=>exact absurd e h1
   | succ j =>
    have:=QV s l (k+1) j (by simpa using h) e;omega
theorem MX {d:List AI} (h:Ci d=0) {j:Nat} (b:j<d.length):Ap d (d.getD j d0).1=(j:Int):=by
 have h1:=(JP h j b).1;have a:=QV (d.getD j d0).1 d 0 j b (Cu _);rw[ADj]at h1 a;have a:Ap d (d.getD j d0).1<=(j:Int):=a;omega
theorem QW {d:List AI} (h:Ci d=0) {x y:AI} (a:x∈d) (b:y∈d) (e:AY x.1 y.1=true):x=y:=by
 obtain⟨i,hi,rfl⟩:=CV d0 a;obtain⟨j,c,rfl⟩:=CV d0 b;grind [MX,JO]
theorem rU (d:List AI) (out:List ByteArray) (h:(IX d out).1=true):∃x∈d,x.1=(IX d out).2/\AZ out x.1=false/\Jv x out=true:=by
 have key:∀(l:List AI) (s:Bool×ByteArray),(∀x∈l,x∈d)->(s.1=true->∃x∈d,x.1=s.2/\AZ out x.1=false/\Jv x out=true)->(l.foldl (JM out) s).1=true ->
   ∃x∈d,x.1=(l.foldl (JM out) s).2/\AZ out x.1=false/\Jv x out=true:=by
  intro l;induction l with
  | nil=>intro s _ hs h;exact hs h
  | cons y l c =>
   intro s a hs h;rw[ON]at h ⊢;refine c _ (λx b=>a x (by simp[b])) (λhp=>?_) h;unfold JM at hp ⊢;split
   ·grind
   ·grind
 exact key d _ (λ_ h=>h) (λh=>by cases h) h
def PL (d:List AI) (o:List ByteArray):Prop:=∀j,j<o.length->∃x∈d,x.1=o.getD j ByteArray.empty/\AZ (o.take j) x.1=false/\Jv x (o.take j)=true
theorem PL.snoc {d:List AI} {o:List ByteArray} (h:PL d o) {x:AI} (i:x∈d) (h1:AZ o x.1=false) (f:Jv x o=true):PL d (o++[x.1]):=by
 intro j g;by_cases a:j<o.length
 ·obtain⟨y,k,b,c,e⟩:=h j a;grind
 ·grind
theorem WD {d:List AI}:∀ {n:Nat} {o:List ByteArray},PL d o->PL d (JN d n o)
 | 0,_,h=>h
 | n+1,o,h=>by
  unfold JN;split
  ·rename_i hp;obtain⟨x,b,e,h1,a⟩:=rU d o hp;rw[<-e];exact WD (h.snoc b h1 a)
  ·exact h
theorem Y8 (d:List AI):PL d (Bl d):=WD λj a=>by simp at a
theorem PL.ok {d:List AI} {o:List ByteArray} (h:PL d o):bS d o:=by
 refine⟨λs hs=>?_,?_⟩
 ·obtain⟨j,a,rfl⟩:=CV ByteArray.empty hs;obtain⟨x,b,e,-⟩:=h j a;rw[<-e];exact DV b
 ·rw[Si];intro i j hi a f;obtain⟨x,b,e,h1,-⟩:=h j a;have c:=QL h1 o[i] (by rw[ADQ];exact⟨i,by omega,rfl⟩);grind
theorem rV {n:Nat} {l:List Nat} (h:l.Nodup) (c:∀j∈l,j<n) (hn:n<=l.length) {k:Nat} (hk:k<n):k∈l:=by
 refine DO λb=>?_;have:=EU n (k :: l) (UN.2 ⟨b,h⟩) (λj a=>by
  rcases Do.1 a with rfl|a
  ·exact hk
  ·exact c j a)
 simp at this;omega
theorem rW {d:List AI} (f:d.length<=(Bl d).length) {x:AI} (h:x∈d):∃s∈Bl d,AY s x.1=true:=by
 have a:=(Y8 d).ok;have h1:=LE d a;have h0:=DV h;have l:=DQ d x.1;have b:=rV (n:=d.length) h1 (λj c=>by
  obtain⟨s,hs,rfl⟩:=IF.1 c;have h1:=a.decl s hs;rcases DQ d s with g|⟨_,g,_⟩<;>omega) (by simpa using f) (k:=(Ap d x.1).toNat) (by omega)
 obtain⟨s,hs,e⟩:=IF.1 b;refine⟨s,hs,?_⟩;rcases DQ d s with g|⟨_,_,i⟩
 ·have:=a.decl s hs;omega
 ·grind [BZ,D5]
def GR (d:List AI) (s:ByteArray):Nat:=(Bl d).findIdx λx=>AY x s
theorem Ie (d:List AI) {s t:ByteArray} (h:AY s t=true):GR d s=GR d t:=by grind [GR,AY,BZ,D5]
theorem LF {d:List AI} (hn:Ci d=0) (o:d.length<=(Bl d).length) {x:AI} (g:x∈d) {s:ByteArray} (hs:AZ x.2.1 s=true):GR d s<GR d x.1:=by
 obtain⟨t,q,e⟩:=rW o g;have c:GR d x.1<(Bl d).length:=List.findIdx_lt_length_of_exists ⟨t,q,e⟩;have heq:AY ((Bl d)[GR d x.1]) x.1=true:=List.findIdx_getElem (w:=c);obtain⟨y,r,a,-,j⟩:=Y8 d (GR d x.1) c;rw[AS,As c]at a;have a:y.1=(Bl d)[GR d x.1]:=a;rw[<-a]at heq;have z:=QW hn r g heq;subst z;obtain⟨u,hu,h⟩:=Sc.1 hs;have k:AZ ((Bl d).take (GR d y.1)) u=true:=IS.1 j u hu;obtain⟨v,f,ev⟩:=Sc.1 k;rw[ADQ]at f;obtain⟨i,hi,rfl⟩:=f;have n:i<GR d y.1:=by omega
 refine AEB ?_ n;refine DO λm=>?_;have b:=List.not_of_lt_findIdx (p:=λx=>AY x s) (xs:=Bl d) (i:=i) (by unfold GR at m;omega);have l:AY ((Bl d)[i]) s=true:=BZ ev h;try simp only at b
 rw[l]at b;exact absurd b (by simp)
def YE (d:List AI) (s x:ByteArray):Prop:=AY s x=true\/GR d s<GR d x
theorem zM {d:List AI} (hn:Ci d=0) (f:d.length<=(Bl d).length) {s c:ByteArray} (b:YE d s c) {o:List ByteArray} (e:∀x∈o,YE d s x) {x:AI} (g:x∈d):∀y∈FW c o x,YE d s y:=by
 intro y a;unfold FW at a;split at a
 ·rename_i h;rw[AT]at h;rcases No.1 a with a|a
  ·exact e y a
  ·have:y=x.1:=by simpa using a
   subst this;have h1:=LF hn f g h.1;right;rcases b with b|b
   ·rw[Ie d b];exact h1
   ·omega
 ·exact e y a
theorem WE {d:List AI} (hn:Ci d=0) (e:d.length<=(Bl d).length) {s c:ByteArray} (b:YE d s c):∀ {l:List AI} {o:List ByteArray},(∀x∈l,x∈d)->(∀x∈o,YE d s x)->∀y∈l.foldl (FW c) o,YE d s y
 | [],_,_,a=>a
 | x :: l,o,f,a=>by
  rw[ON];exact WE hn e b (λy g=>f y (by simp[g])) (zM hn e b a (f x (by simp)))
theorem TN {d:List AI} (hn:Ci d=0) (b:d.length<=(Bl d).length) {s:ByteArray}:∀ {n i:Nat} {o:List ByteArray},(∀x∈o,YE d s x)->∀y∈Cj d n i o,YE d s y
 | 0,_,_,a=>a
 | n+1,i,o,a=>by
  unfold Cj;split
  ·rename_i hi;exact TN hn b (WE hn b (a _ (BC hi)) (λ_ h=>h) a)
  ·exact a
theorem A3G {c:ByteArray} {o:List ByteArray} {x:AI} {y:ByteArray} (h:y∈o):y∈FW c o x:=by grind [FW]
theorem NS {c:ByteArray} {y:ByteArray}:∀ {l:List AI} {o:List ByteArray},y∈o->y∈l.foldl (FW c) o
 | [],_,h=>h
 | x :: l,o,h=>by rw[ON];exact NS (A3G h)
theorem LG {d:List AI} {y:ByteArray}:∀ {n i:Nat} {o:List ByteArray},y∈o->y∈Cj d n i o
 | 0,_,_,h=>h
 | n+1,i,o,h=>by
  unfold Cj;split
  ·exact LG (NS h)
  ·exact h
theorem G7 {l:List ByteArray} {s x:ByteArray} (h:x∈Ec l s):x∈l\/x=s:=by grind [Ec]
theorem NT {l:List ByteArray} {s x:ByteArray} (h:x∈l):x∈Ec l s:=by
 unfold Ec;split
 ·exact h
 ·have a:x∈l.take (atF l s)\/x∈l.drop (atF l s):=No.1 (by rw[ADL];exact h);grind
theorem QX {l:List ByteArray} {s:ByteArray}:AZ (Ec l s) s=true:=by
 unfold Ec;grind [JL,atF,AY,AZ,Cu]
theorem Fx {l:List ByteArray} {s:ByteArray} (h:s∈l):AZ l s=true:=Sc.2 ⟨s,h,Cu s⟩
theorem KJ {l m:List ByteArray} {s:ByteArray} (hs:∀x∈l,x∈m) (h:AZ l s=true):AZ m s=true:=by
 obtain⟨x,a,e⟩:=Sc.1 h;exact Sc.2 ⟨x,hs x a,e⟩
theorem WF:∀ {l o:List ByteArray} {x:ByteArray},x∈l.foldl Ec o->x∈o\/x∈l
 | [],_,_,h=>.inl h
 | y :: l,o,x,h=>by
  rw[ON]at h;rcases WF h with h|h
  ·grind [G7]
  ·grind
theorem Y9:∀ {l o:List ByteArray} {x:ByteArray},x∈o->x∈l.foldl Ec o
 | [],_,_,h=>h
 | y :: l,o,x,h=>by rw[ON];exact Y9 (NT h)
theorem QY:∀ {l o:List ByteArray} {x:ByteArray},x∈l->AZ (l.foldl Ec o) x=true
 | [],_,_,h=>by cases h
 | y :: l,o,x,h=>by
  rw[ON];rcases Do.1 h with rfl|h
  ·grind [KJ,Y9,QX]
  ·exact QY h
theorem O2 {d:List AI} {s:ByteArray} (h:0<=Ap d s):AZ (Ck d s) s=true:=by
 unfold Ck;rw[An (by omega)];exact QY (LG (by simp))
theorem WG {d:List AI} (hn:Ci d=0) (c:d.length<=(Bl d).length) {s x:ByteArray} (h:AZ (Ck d s) x=true):YE d s x:=by
 obtain⟨y,a,e⟩:=Sc.1 h;have b:YE d s y:=by
  unfold Ck at a;split at a
  ·cases a
  ·rcases WF a with a|a
   ·cases a
   ·refine TN hn c (λz f=>?_) y a;have:z=s:=by simpa using f
    rw[this];exact .inl (Cu s)
 rcases b with b|b
 ·exact .inl (BZ b e)
 ·rw[Ie d e]at b;exact .inr b
theorem DW {d:List AI} {s:ByteArray} (h:s∈AN d):∃x∈d,x.1=s:=by
 have key:∀(l:List AI) (o:List ByteArray),s∈l.foldl (λo x=>Ec o x.1) o->s∈o\/∃x∈l,x.1=s:=by
  intro l;induction l with
  | nil=>intro o h;exact .inl h
  | cons x l a =>
   intro o h;rw[ON]at h;rcases a _ h with h|⟨y,b,e⟩
   ·grind [G7]
   ·grind
 rcases key d [] h with h|h
 ·cases h
 ·exact h
theorem O3 {d:List AI} {x:AI} (h:x∈d):AZ (AN d) x.1=true:=by
 have b:∀(l:List AI) (o:List ByteArray),∀y∈o,y∈l.foldl (λo x=>Ec o x.1) o:=by
  intro l;induction l with
  | nil=>intro o y h;exact h
  | cons x l a=>intro o y h;rw[ON];exact a _ y (NT h)
 have key:∀(l:List AI) (o:List ByteArray),x∈l->AZ (l.foldl (λo x=>Ec o x.1) o) x.1=true:=by
  intro l;induction l with
  | nil=>intro o h;cases h
  | cons y l a =>
   intro o h;rw[ON];rcases Do.1 h with rfl|h
   ·grind [KJ,QX]
   ·exact a _ h
 exact key d [] h
theorem nB {d:List AI} (hn:Ci d=0) (g:d.length<=(Bl d).length) (r:d.length<=256) {i j:Nat} (hi:i<(AN d).length) (f:j<(AN d).length)
  (h:DP (E1 d (AN d) ((AN d).getD i ByteArray.empty)) (E1 d (AN d) ((AN d).getD j ByteArray.empty))=true):AY ((AN d).getD i ByteArray.empty) ((AN d).getD j ByteArray.empty)=true:=by
 have o:=D0 d d.length;rw[Sf]at o;have a:(AN d).length<=4096:=by omega
 generalize hs:(AN d).getD i ByteArray.empty=s at *;generalize b:(AN d).getD j ByteArray.empty=t at *;have p:0<=Ap d s:=by
  obtain⟨x,c,e⟩:=DW (s:=s) (by rw[<-hs];exact BC hi);rw[<-e];exact DV c
 have q:0<=Ap d t:=by
  obtain⟨x,c,e⟩:=DW (s:=t) (by rw[<-b];exact BC f);rw[<-e];exact DV c
 obtain⟨c1,k,-⟩:=B5 (d:=d) a s i;obtain⟨c2,l,-⟩:=B5 (d:=d) a t i;obtain⟨m,-,-⟩:=B5 (d:=d) a s j;obtain⟨n,-,-⟩:=B5 (d:=d) a t j;unfold DP at h;rw[AT]at h;have b1:=WG hn g (c2.1 (MW k l h.1 (c1.2 ⟨hi,by rw[hs];exact O2 p⟩))).2;have b2:=WG hn g (m.1 (MW l k h.2 (n.2 ⟨f,by rw[b];exact O2 q⟩))).2;rw[hs]at b1;rw[b]at b2;rcases b1 with b1|b1
 ·exact D5 b1
 ·rcases b2 with b2|b2
  ·exact b2
  ·omega
section
attribute [local go_sem] bL A3n MT cs0 cs1
def vY (d:List AI) (all:List ByteArray) (codes:List (List Int)) (b:List Int):Nat->Nat->List ByteArray->ByteArray ⊕ List ByteArray
 | 0,_,l=>.inr l
 | n+1,i,l=>if DP (codes.getD i []) b=true then .inl (all.getD i ByteArray.empty) else vY d all codes b n (i+1) (if Tz b (i:Int)=true then l++[all.getD i ByteArray.empty] else l)
def ZA (l:List ByteArray) (s:ByteArray) (i:Nat):ByteArray:=(if 0<(i:Int) then s++ByteArray.mk #[38] else s)++l.getD i ByteArray.empty
def nC (l:List ByteArray):ByteArray:=(List.range l.length).foldl (ZA l) ByteArray.empty
def G8 (d:List AI) (all:List ByteArray) (codes:List (List Int)) (b:List Int):ByteArray :=
 match vY d all codes b all.length 0 [] with
 | .inl s=>s
 | .inr l=>nC (A2 d l)
theorem OD {d:List AI} {x:ByteArray}:∀ {l o:List ByteArray},x∈l.foldl (FX d) o->x∈o\/x∈l
 | [],_,h=>.inl h
 | y :: l,o,h=>by
  rw[ON]at h;rcases OD h with h|h
  ·unfold FX at h;split at h
   ·rcases G7 h with h|h
    ·exact .inl h
    ·exact .inr (by simp[h])
   ·exact .inl h
  ·exact .inr (by simp[h])
theorem Hq {d:List AI} {l:List ByteArray} {x:ByteArray} (h:x∈A2 d l):x∈l:=by
 unfold A2 QN at h;obtain⟨i,hi,rfl⟩:=IF.1 h;rw[ACV,Sl]at hi;rcases OD (BC (d:=ByteArray.empty) hi.1) with h|h
 ·cases h
 ·exact h
theorem bZ (d:List AI) (l:List ByteArray):(A2 d l).length<=l.length:=Sd (mZ _ _ _) (Jw d l)
theorem rZ {l:List ByteArray} (h:∀s∈l,s.size<=32) (k:Nat):(l.getD k ByteArray.empty).size<=32:=by
 rw[AS];cases hh:l[k]? with
 | none=>simp
 | some x=>exact h x (f3 hh)
def QZ (l:List ByteArray) (n:Nat):ByteArray:=(List.range n).foldl (ZA l) ByteArray.empty
theorem O4 (l:List ByteArray) (n:Nat):QZ l (n+1)=ZA l (QZ l n) n:=by
 unfold QZ;rw[UJ,ADU];rfl
theorem WH {l:List ByteArray} (h:∀s∈l,s.size<=32):∀n,(QZ l n).size<=33*n
 | 0=>by simp[QZ]
 | n+1=>by
  have h1:=WH h n;have a:=rZ h n;rw[O4];unfold ZA;split
  ·rw[ADP,ADP];have:(ByteArray.mk #[38]).size=1:=rfl;omega
  ·rw[ADP];omega
def b4:Ac:={ ins:=[FM,F4,Tx,BU],pre:=λ(d,all,codes,b,_)=>QK d/\List.length d<=256/\List.length all<=256/\List.length codes=List.length all/\(∀s∈(all:List ByteArray),s.size<=32)/\(∀x∈(codes:List (List Int)),x.length<=64)/\List.length b<=64,out:=λ(d,all,codes,b,_)=>[.p T9 (G8 d all codes b)] }
theorem zN:Ad Tryz.prog 164 b4:=by
 refine fK [0,1,2,3,8,9,10,11,12,16,24,31,45,49] Tryz.func164 Tryz.ntmps164 (AF zA (AF A3o (AF V0 AG))) ?_;rintro w0 O0 ⟨d,all,codes,b,u⟩ e-⟨hs,z,t,q,C,y,w⟩;have t:all.length<=256:=t;have q:codes.length=all.length:=q;simp only[b4,AM];repeat'(first|exact trivial|refine eS rfl ?_|refine rX e ?_ ?_)
 refine AK (ι:={x:Nat×List ByteArray//x.1<=all.length/\x.2.length<=x.1/\(∀s∈x.2,s.size<=32)/\vY d all codes b (all.length-x.1) x.1 x.2=vY d all codes b all.length 0 []}) (λx=>⟨[(0,.p FM d),(1,.p F4 all),(2,.p Tx codes),(3,.p BU b),(9,.sr 38 T9 0 x.1.2.length),(10,.p (.int .i64) (x.1.1:Int))],[(38,.arr 9 T9 x.1.2)]⟩) (λx=>all.length-x.1.1) ⟨(0,[]),by simp,by simp,by simp,rfl⟩ (eW [(38,.nil)]) (λx=>?_)
 ·obtain⟨⟨i,l⟩,hi,B,o,f⟩:=x;simp only at hi B o f;have r:i<all.length->vY d all codes b (all.length-i) i l=if DP (codes.getD i []) b=true then .inl (all.getD i ByteArray.empty) else vY d all codes b (all.length-(i+1)) (i+1) (if Tz b (i:Int)=true then l++[all.getD i ByteArray.empty] else l):=by
   intro h;rw[show all.length-i=(all.length-(i+1))+1 by omega];rfl
  simp only;repeat'(first|exact trivial|refine eS rfl ?_|refine AB ?_|refine rX e ?_ ?_|refine rC ?_ ?_<;>intro a<;>try(cases a;done))
  ·exact⟨by rw[q];exact a,Sd (MV y i) (by decide),Sd w (by decide)⟩
  ·assumption
  ·have c:i<all.length:=by exact eV
   have j:G8 d all codes b=all.getD i ByteArray.empty:=by
    unfold G8;rw[<-f,r c,BY a]
   exact fI e [.tmp 8] (by rw[j];exact eR)
  ·have c:i<all.length:=by exact eV
   exact⟨If.2 c,by simp only[AP];omega⟩
  ·exact eV
  ·have c:i<all.length:=by exact eV
   have hn:=r c;rw[An (by rw[‹DP _ _=false›];simp),BY a]at hn;refine⟨⟨(i+1,l++[all.getD i ByteArray.empty]),by simp only;omega,by simp only[GO,SY];omega,?_,hn.symm.trans f⟩,by simp only;omega,AC [(38,.nm 38)] rfl rfl ?_ ?_⟩
   ·intro s hs;rcases No.1 hs with hs|hs
    ·exact o s hs
    ·have:s=all.getD i ByteArray.empty:=by simpa using hs
     rw[this];exact rZ C i
   ·exact eN
   ·exact eN
  ·exact eV
  ·have c:i<all.length:=by exact eV
   have hn:=r c;rw[An (by rw[‹DP _ _=false›];simp),An (by rw[a];simp)]at hn;exact⟨⟨(i+1,l),by simp only;omega,by simp only;omega,o,hn.symm.trans f⟩,by simp only;omega,eW [(38,.nm 38)]⟩
  ·have j:G8 d all codes b=nC (A2 d l):=by
    unfold G8;rw[<-f];have:all.length-i=0:=by exact eV
    rw[this];rfl
   refine F1 [38] ?_;repeat'(first|exact trivial|refine eS rfl ?_|refine rX e ?_ ?_)
   ·exact⟨hs,z,by omega⟩
   ·have v:∀s∈A2 d l,s.size<=32:=λs h=>o s (Hq h);have E:=bZ d l;have A:nC (A2 d l)=QZ (A2 d l) (A2 d l).length:=rfl;rw[A]at j;generalize A2 d l=m at *;refine AK (ι:={k:Nat//k<=m.length}) (λk=>⟨[(9,.p F4 m),(11,.p T9 (QZ m k.1)),(12,.p (.int .i64) (k.1:Int))],[]⟩) (λk=>m.length-k.1) ⟨0,IN _⟩ (AC [] rfl rfl ?_ ?_) (λk=>?_)
    ·exact eN
    ·refine eM ?_;rfl
    ·obtain⟨k,hk⟩:=k;have hk:k<=m.length:=hk;have D:=WH v k;have n:=O4 m k;have F:=rZ v k;unfold ZA at n;simp only;repeat'(first|exact trivial|refine eS rfl ?_|refine AB ?_|refine rX e ?_ ?_|refine rC ?_ ?_<;>intro a<;>try(cases a;done))
     ·have h1:(ByteArray.mk #[38]).size=1:=rfl;rw[h1];simp only[AP];exact eV
     ·refine⟨by assumption,?_⟩;have h1:(ByteArray.mk #[38]).size=1:=rfl;rw[ADP,h1];simp only[AP];exact eV
     ·exact eV
     ·have g:k<m.length:=by exact eV
      rw[BY a]at n;refine⟨⟨k+1,g⟩,by simp only;omega,AC [] rfl rfl ?_ ?_⟩
      ·exact eN
      ·simp only[n];exact eN
     ·refine⟨by assumption,?_⟩;simp only[AP];exact eV
     ·exact eV
     ·have g:k<m.length:=by exact eV
      rw[An (ACU.2 a)]at n;refine⟨⟨k+1,g⟩,by simp only;omega,AC [] rfl rfl ?_ ?_⟩
      ·exact eN
      ·simp only[n];exact eN
     ·have g:k=m.length:=by exact eV
      rw[<-g]at j;exact fI e [.tmp 8] (by rw[j];exact eR)
end
section
attribute [local go_sem] Uc QJ A3B bW b4 bV
def Fy (x:AQ) (out:List AQ):Nat->Nat
 | 0=>0
 | n+1=>if GC x (out.getD n c0)=true then Fy x out n else n+1
def b5 (out:List AQ) (x:AQ):List AQ:=out.take (Fy x out out.length)++[x]++out.drop (Fy x out out.length)
def AW (d:List AI):List (List Int):=(AN d).map λs=>E1 d (AN d) s
def Gi (d:List AI) (all:List ByteArray) (codes:List (List Int)) (out:List AQ) (b:List Int):List AQ:=b5 out (G8 d all codes b,b)
def Ry (d:List AI):List AQ->List Int->List AQ:=Gi d (AN d) (AW d)
theorem O5 (d:List AI) (all:List ByteArray) (codes:List (List Int)):∀(l:List (List Int)) (o:List AQ),(l.foldl (Gi d all codes) o).length=o.length+l.length
 | [],o=>by simp
 | b :: l,o=>by
  rw[ON,O5 d all codes l];unfold Gi b5;simp only[GO,OR,UI,OS,AD7];omega
theorem WI {d:List AI} {all:List ByteArray} {codes:List (List Int)}:∀ {l:List (List Int)} {o:List AQ},(∀c∈l,c.length<=64)->(∀y∈o,y.2.length<=64)->∀y∈l.foldl (Gi d all codes) o,y.2.length<=64
 | [],_,_,e=>e
 | b :: l,o,f,e=>by
  rw[ON];refine WI (λc g=>f c (by simp[g])) (λy a=>?_);unfold Gi b5 at a;simp only[No,UF]at a;rcases a with (a|a)|a
  ·exact e y (dO a)
  ·rw[a];exact f b (by simp)
  ·exact e y (ADB a)
theorem nD (x:AQ) (out:List AQ):∀n,Fy x out n<=n
 | 0=>NO _
 | n+1=>by
  unfold Fy;split
  ·exact Nat.le_succ_of_le (nD x out n)
  ·exact NO _
def AL (d:List AI):List AQ:=(Au (AW d)).foldl (Ry d) []
def B6 (d:List AI):List AQ×Int :=
 if A5 d≠0 then ([],A5 d) else if 256<(Au (AW d)).length then ([],7) else (AL d,0)
theorem r7 {s:ByteArray} {b:Bool} (h:Ez s b=true):s.size<=32:=by
 unfold Ez at h;rw[AT]at h;have h1:=h.1;unfold Rn at h1;simp only[SZ,iF,Of]at h1;have:=h1.1.1.2;omega
theorem nE {d:List AI} (hn:Ci d=0):∀s∈AN d,s.size<=32:=by
 intro s hs;obtain⟨x,b,rfl⟩:=DW hs;obtain⟨j,a,rfl⟩:=CV d0 b;exact r7 (JP hn j a).2
def LH (d:List AI) (n:Nat):List (List Int):=((AN d).take n).map λs=>E1 d (AN d) s
theorem r8 {d:List AI} {n:Nat} (h:n<=(AN d).length):(LH d n).length=n:=by simp[LH,h]
theorem nF {d:List AI} {n:Nat} (h:n<(AN d).length):LH d (n+1)=LH d n++[E1 d (AN d) ((AN d).getD n ByteArray.empty)]:=by
 unfold LH;rw[A0 _ ByteArray.empty h,gO];rfl
theorem r9 (d:List AI):LH d (AN d).length=AW d:=by simp[LH,AW]
theorem sA (d:List AI):(AW d).length=(AN d).length:=by simp[AW]
theorem O6 {d:List AI} (h:d.length<=256):∀c∈AW d,c.length<=64:=by
 intro c a;unfold AW at a;obtain⟨s,-,rfl⟩:=IF.1 a;have b:=D0 d d.length;rw[Sf]at b;exact(B5 (d:=d) (all:=AN d) (by omega) s 0).2.2
theorem nG {i:Nat}:∀ {n k:Nat} {l:List (List Int)},(∀c∈l,c.length<=64)->∀c∈Gh i n k l,c.length<=64
 | 0,_,_,h=>h
 | n+1,k,l,h=>by
  unfold Gh;split
  ·exact nG (m8 h i k)
  ·exact h
theorem Qa:∀ {n i:Nat} {l:List (List Int)},(∀c∈l,c.length<=64)->∀c∈Ib n i l,c.length<=64
 | 0,_,_,h=>h
 | n+1,i,l,h=>by
  unfold Ib;split
  ·exact Qa (nG h)
  ·exact h
theorem nH {out:List AQ} {x y:AQ}:y∈b5 out x↔y=x\/y∈out:=by
 unfold b5;rw[No,No,UF];have h:=No (a:=y) (s:=out.take (Fy x out out.length)) (t:=out.drop (Fy x out out.length));rw[ADL]at h;rw[h];constructor
 ·rintro ((h|h)|h)
  ·exact .inr (.inl h)
  ·exact .inl h
  ·exact .inr (.inr h)
 ·rintro (h|h|h)
  ·exact .inl (.inr h)
  ·exact .inl (.inl h)
  ·exact .inr h
def Rz:Ac:={ ins:=[FM],pre:=λ_=>True,out:=λ(d,_)=>[.p KG (B6 d).1,.p Ls (B6 d).2] }
theorem Qb:Ad Tryz.prog 118 Rz:=by
 refine fK [0,2,3,4,5,6,7,8,9,10,11,12,13,17,24,41,45,73] Tryz.func118 Tryz.ntmps118 (AF zG (AF Yz (AF A6k (AF zL (AF zN (AF zJ AG)))))) ?_;rintro w0 O0 ⟨d,u⟩ g - -;simp only[Rz,AM];repeat'(first|exact trivial|refine eS rfl ?_|refine rX g ?_ ?_|refine rC ?_ ?_<;>intro a<;>try(cases a;done))
 ·have h1:B6 d=([],A5 d):=by unfold B6;rw[BY a]
  exact fI g [.tmp 2,.tmp 3] (by rw[h1];exact eR)
 ·have i:A5 d=0:=by simpa using a
  obtain⟨-,E,-⟩:=Ay i;exact Sd E (by decide)
 ·have i:A5 d=0:=by simpa using a
  obtain⟨M,s,-,hn,-⟩:=Ay i;have F:=D0 d d.length;rw[Sf]at F;have N:=nE hn;refine AK (ι:={n:Nat//n<=(AN d).length}) (λn=>⟨[(0,.p FM d),(5,.p F4 (AN d)),(6,.sr 36 BU 0 (LH d n.1).length),(7,.p (.int .i64) (n.1:Int))],[(36,.arr 140 BU (LH d n.1))]⟩) (λn=>(AN d).length-n.1) ⟨0,IN _⟩ (AC [(36,.nil)] rfl rfl ?_ ?_) (λn=>?_)
  ·refine eM ?_;rfl
  ·refine eM ?_;rfl
  ·obtain⟨n,I⟩:=n;have Q:=r8 I;have hs:=λh=>nF (d:=d) (n:=n) h;simp only;repeat'(first|exact trivial|refine eS rfl ?_|refine AB ?_|refine rX g ?_ ?_|refine rC ?_ ?_<;>intro a<;>try(cases a;done))
   ·refine⟨a,⟨s,by dsimp only[Ty.den]at *;omega⟩,?_⟩;simp only[AP];dsimp only[Ty.den]at *;omega
   ·exact eV
   ·have w:n<(AN d).length:=by exact eV
    have e:=hs w;refine⟨⟨n+1,by omega⟩,by simp only;omega,AC [(36,.nm 36)] rfl rfl ?_ ?_⟩
    ·simp only[e];exact eN
    ·simp only[e];exact eN
   ·have w:n=(AN d).length:=by exact eV
    subst w;rw[r9];have H:=sA d;have x:=O6 s;have t:∀c∈Au (AW d),c.length<=64:=Qa x;refine F1 [36] ?_;repeat'(first|exact trivial|refine eS rfl ?_|refine rX g ?_ ?_|refine rC ?_ ?_<;>intro a<;>try(cases a;done))
    ·exact⟨by omega,x⟩
    ·have h1:B6 d=([],7):=by
      unfold B6;rw[An (by rw[i];simp),BY (by omega)]
     exact fI g [.tmp 2,.tmp 3] (by rw[h1];exact eR)
    ·have D:B6 d=((Au (AW d)).foldl (Gi d (AN d) (AW d)) [],0):=by
      unfold B6;rw[An (by rw[i];simp),An (by omega)];rfl
     generalize Au (AW d)=f at *;generalize AW d=codes at *;generalize AN d=all at *;refine AK (ι:={k:Nat//k<=f.length}) (λk=>⟨[(0,.p FM d),(5,.p F4 all),(6,.p Tx codes),(8,.p Tx f),(9,.sr 9 bJ 0 ((f.take k.1).foldl (Gi d all codes) []).length),(10,.p (.int .i64) (k.1:Int))],[(9,.arr 152 bJ ((f.take k.1).foldl (Gi d all codes) []))]⟩) (λk=>f.length-k.1) ⟨0,IN _⟩ (AC [(9,.nil)] rfl rfl ?_ ?_) (λk=>?_)
     ·refine eM ?_;rfl
     ·refine eM ?_;rfl
     ·obtain⟨k,hk⟩:=k;have C:=O5 d all codes (f.take k) [];have O:(f.take k).length=k:=by rw[OR];exact ADH hk
      have J:=WI (d:=d) (all:=all) (codes:=codes) (l:=f.take k) (o:=[]) (λc g=>t c (dO g)) (by simp);have L:=λh:k<f.length=>FB (Gi d all codes) f [] [] h;rw[O]at C;simp only[AD7,ADj]at C;generalize B:(f.take k).foldl (Gi d all codes) []=out at *;simp only;repeat'(first|exact trivial|refine eS rfl ?_|refine rX g ?_ ?_|refine rC ?_ ?_<;>intro a<;>try(cases a;done))
      ·exact⟨a,⟨M,s,by omega,H,N,x,MV t k⟩,a⟩
      ·have v:k<f.length:=by exact eV
       have e:=L v;have G:=MV t k;generalize f.getD k []=b at *;unfold Gi at e;generalize G8 d all codes b=nm at *;refine AK (ι:={q:Nat//q<=out.length/\Fy (nm,b) out q=Fy (nm,b) out out.length}) (λq=>⟨[(0,.p FM d),(5,.p F4 all),(6,.p Tx codes),(8,.p Tx f),(9,.sr 9 bJ 0 out.length),(10,.p (.int .i64) (k:Int)),(11,.bp 11 [] 0),(12,.p (.int .i64) (q.1:Int))],[(9,.arr 152 bJ out),(11,.box 152 true [.p T9 nm,.p BU b])]⟩) (λq=>q.1) ⟨out.length,NO _,rfl⟩ (eW [(9,.nm 9),(11,.nm 11)]) (λq=>?_)
       ·obtain⟨q,j,A⟩:=q;have j:q<=out.length:=j;simp only;repeat'(first|exact trivial|refine eS rfl ?_|refine AB ?_|refine rX g ?_ ?_|refine rC ?_ ?_<;>intro a<;>try(cases a;done))
        ·refine⟨λh=>by omega,λh=>by exact eV,λh=>⟨Sd G (by decide),Sd (J _ (AE out c0 (k:=((q:Int)-1).toNat) (by omega))) (by decide)⟩⟩
        ·omega
        ·obtain⟨P,z⟩:=a;obtain⟨q,rfl⟩:∃r,q=r+1:=⟨q-1,by omega⟩;have m:((q+1:Nat):Int)-1=(q:Int):=by omega
         refine⟨⟨q,by omega,?_⟩,AEs q,AC [(9,.nm 9),(11,.nm 11)] rfl rfl ?_ ?_⟩
         ·rw[<-A];rw[m,Se]at z;show _=if GC (nm,b) (out.getD q c0)=true then Fy (nm,b) out q else q+1
          rw[BY z]
         ·exact eN
         ·refine eM ?_;show (q:Int)+1-1=q;omega
        ·refine⟨Sb.2 j,?_⟩;rw[OR];simp only[AP];omega
        ·rw[OR];simp only[AP];omega
        ·refine⟨Sb.2 j,?_⟩;rw[OR,UI];simp only[AP];omega
        ·omega
        ·have K:Fy (nm,b) out q=q:=by
          cases q with
          | zero=>rfl
          | succ q =>
           have m:((q+1:Nat):Int)-1=(q:Int):=by omega
           have:=a (by omega);rw[m,Se]at this;show (if GC (nm,b) (out.getD q c0)=true then Fy (nm,b) out q else q+1)=q+1;rw[An (by rw[this];simp)]
         unfold b5 at e;rw[<-A,K]at e;refine⟨⟨k+1,by omega⟩,by simp only;omega,AC [(9,.nm 80)] rfl rfl ?_ ?_⟩
         ·refine eM ?_;exact e.symm
         ·refine eM ?_;have y:=AD0 List.length e;rw[GO,GO]at y;exact y.symm
      ·have v:k=f.length:=by exact eV
       rw[v,Sf]at B;rw[B]at D;refine F1 [9] ?_;exact fI g [.tmp 2,.tmp 3] (by rw[D];exact eR)
end
theorem ZB {d:List AI}:∀ {l:List (List Int)} {o:List AQ} {y:AQ},y∈l.foldl (Ry d) o↔y∈o\/∃b∈l,y=(G8 d (AN d) (AW d) b,b)
 | [],o,y=>by simp
 | b :: l,o,y=>by
  rw[ON,ZB];unfold Ry Gi;rw[nH];simp only[Do];constructor
  ·rintro ((h|h)|⟨c,a,e⟩)
   ·exact .inr ⟨b,.inl rfl,h⟩
   ·exact .inl h
   ·exact .inr ⟨c,.inr a,e⟩
  ·rintro (h|⟨c,rfl|a,e⟩)
   ·exact .inl (.inr h)
   ·exact .inl (.inl e)
   ·exact .inr ⟨c,a,e⟩
theorem DX {d:List AI} {y:AQ}:y∈AL d↔∃b∈Au (AW d),y=(G8 d (AN d) (AW d) b,b):=by
 unfold AL;rw[ZB];simp
theorem Ig (d:List AI):(AL d).length=(Au (AW d)).length:=by
 have h:=O5 d (AN d) (AW d) (Au (AW d)) [];rw[AD7,ADj]at h;exact h
theorem A3H {l:List (List Int)} {i k:Nat} {c:List Int} (h:c∈l):c∈Gg l i k:=by
 unfold Gg;split
 ·exact No.2 (.inl h)
 ·exact h
theorem nI {i:Nat} {c:List Int}:∀ {n k:Nat} {l:List (List Int)},c∈l->c∈Gh i n k l
 | 0,_,_,h=>h
 | n+1,k,l,h=>by
  unfold Gh;split
  ·exact nI (A3H h)
  ·exact h
theorem nJ {c:List Int}:∀ {n i:Nat} {l:List (List Int)},c∈l->c∈Ib n i l
 | 0,_,_,h=>h
 | n+1,i,l,h=>by
  unfold Ib;split
  ·exact nJ (nI h)
  ·exact h
theorem JQ (d:List AI) {i:Nat} (h:i<(AN d).length):(AW d).getD i []=E1 d (AN d) ((AN d).getD i ByteArray.empty):=by
 unfold AW;simp[AS,h]
theorem vZ {d:List AI} (hn:Ci d=0) (f:d.length<=(Bl d).length) (c:d.length<=256) {j:Nat} (b:j<(AN d).length):∀(m i:Nat) (l:List ByteArray),i+m=(AN d).length->i<=j ->
  ∃s,vY d (AN d) (AW d) ((AW d).getD j []) m i l=.inl s/\AY s ((AN d).getD j ByteArray.empty)=true
 | 0,i,l,h,g=>by omega
 | m+1,i,l,h,g=>by
  unfold vY;split
  ·rename_i a;refine⟨_,rfl,?_⟩;rw[JQ d (by omega),JQ d b]at a;exact nB hn f c (by omega) b a
  ·rename_i a;have k:i≠j:=by
    intro e;subst e;exact a (nA _)
   exact vZ hn f c b m (i+1) _ (by omega) (by omega)
theorem v4 (s:ByteArray):∀(l:List AQ) (k:Nat),MU s k l<((k+l.length:Nat):Int)
 | [],k=>by simp only[MU];omega
 | x :: l,k=>by
  simp only[MU];split
  ·simp only[OS];omega
  ·have:=v4 s l (k+1);simp only[OS];omega
theorem v5 (s:ByteArray):∀(l:List AQ) (k:Nat) (x:AQ),x∈l->AY x.1 s=true->0<=MU s k l
 | [],_,_,h,_=>by cases h
 | y :: l,k,x,h,e=>by
  simp only[MU];split
  ·omega
  ·rename_i a;rcases Do.1 h with rfl|h
   ·exact absurd e a
   ·exact v5 s l (k+1) x h e
theorem Ih (l:List AQ) (s:ByteArray):BN l s<(l.length:Int):=by
 have:=v4 s l 0;rw[ADj]at this;exact this
theorem G9 {d:List AI} (h:A5 d=0) {s:ByteArray} (hs:AZ (AN d) s=true):0<=BN (AL d) s:=by
 obtain⟨-,b,-,hn,f⟩:=Ay h;obtain⟨t,g,e⟩:=Sc.1 hs;obtain⟨j,c,rfl⟩:=CV ByteArray.empty g;obtain⟨u,hu,a⟩:=vZ hn f b c (AN d).length 0 [] (by omega) (by omega);have i:(AW d).length=(AN d).length:=by simp[AW]
 refine v5 s (AL d) 0 (u,(AW d).getD j []) ?_ (BZ a e);rw[DX];refine⟨(AW d).getD j [],nJ (BC (by omega)),?_⟩;unfold G8;rw[hu]
theorem TP {d:List AI} (h:A5 d=0) {x:AI} (a:x∈d):0<=BN (AL d) x.1:=G9 h (O3 a)
theorem Ba {d:List AI} (h:(B6 d).2=0):A5 d=0/\(Au (AW d)).length<=256/\(B6 d).1=AL d:=by
 unfold B6 at h ⊢;split at h
 ·rename_i h1;exact absurd h h1
 ·rename_i h1;split at h
  ·cases h
  ·rename_i a;exact⟨DO h1,by omega,by rw[An h1,An a]⟩
theorem v6 {d:List AI} (h:A5 d=0):0<(AL d).length:=by
 obtain⟨-,-,a,-,-⟩:=Ay h;cases d with
 | nil=>cases a
 | cons x d =>
  have:=TP h (x:=x) (by simp);have b:=Ih (AL (x :: d)) x.1;omega
section
attribute [local go_sem] vW
def A8J (l:List AQ) (i k:Int) (m:Nat):Bool:=(m:Int)==i||(m:Int)==k||!Lb l k (m:Int)||!Lb l (m:Int) i
def zO (l:List AQ) (i k:Int) (n:Nat):Bool:=(List.range n).all (A8J l i k)
def zP (l:List AQ) (i:Int) (k:Nat):Bool:=!((k:Int)==i||!Lb l (k:Int) i)&&zO l i (k:Int) l.length
def OE (l:List AQ) (i:Int) (n:Nat):List Int:=((List.range n).filter λ(k:Nat)=>zP l i k).map λ(k:Nat)=>(k:Int)
def ZC (l:List AQ) (i:Int):List Int:=OE l i l.length
theorem sB (l:List AQ) (i:Int) (n:Nat):OE l i (n+1)=OE l i n++if zP l i n=true then [(n:Int)] else []:=by
 unfold OE;rw[UJ,ADO,gO]
 congr 1
 rw[bY,AE2];split<;>rfl
theorem zQ (l:List AQ) (i:Int) (n:Nat):(OE l i n).length<=n:=by
 unfold OE;rw[SX];exact Sd (aS _ _) (by simp)
theorem zR (l:List AQ) (i k:Int) (n:Nat):zO l i k (n+1)=(zO l i k n&&A8J l i k n):=by
 unfold zO;rw[UJ,AE4];simp
def A3I:Ac:={ ins:=[KG,T3],pre:=λ(l,i,_)=>((0:Int)<=i/\i<(List.length l:Int))/\List.length l<=256/\(∀x∈(l:List AQ),x.2.length<=64),out:=λ(l,i,_)=>[.p F3 (ZC l i)] }
theorem A6q:Ad Tryz.prog 119 A3I:=by
 refine fK [0,1,4,5,6,7,8,12,24,28,56] Tryz.func119 Tryz.ntmps119 (AF vX AG) ?_;rintro w0 O0 ⟨l,i,u⟩ c-⟨hi,g,o⟩;have g:l.length<=256:=g;have f:∀x∈(l:List AQ),x.2.length<=100000:=λx h=>Sd (o x h) (by decide);simp only[A3I,AM];repeat'(first|exact trivial|refine eS rfl ?_|refine rX c ?_ ?_)
 refine AK (ι:={k:Nat//k<=l.length}) (λk=>⟨[(0,.p KG l),(1,.p T3 i),(5,.sr 60 T3 0 (OE l i k.1).length),(6,.p (.int .i64) (k.1:Int))],[(60,.arr 3 T3 (OE l i k.1))]⟩) (λk=>l.length-k.1) ⟨0,IN _⟩ (AC [(60,.nil)] rfl rfl ?_ ?_) (λk=>?_)
 ·refine eM ?_;rfl
 ·refine eM ?_;rfl
 ·obtain⟨k,hk⟩:=k;have hk:k<=l.length:=hk;have q:=zQ l i k;have hs:=sB l i k;simp only;repeat'(first|exact trivial|refine eS rfl ?_|refine AB ?_|refine rX c ?_ ?_|refine rC ?_ ?_<;>intro a<;>try(cases a;done))
  ·intro h;exact⟨by assumption,hi,f⟩
  ·exact eV
  ·have e:k<l.length:=by exact eV
   have b:zP l i k=false:=by
    unfold zP;rw[ACT];left;rw[ADf,Su,UH,SZ];exact a
   rw[b,An (by simp),Sq]at hs;refine⟨⟨k+1,by omega⟩,by simp only;omega,AC [(60,.nm 60)] rfl rfl ?_ ?_⟩
   ·simp only[hs];exact eN
   ·simp only[hs];exact eN
  ·have e:k<l.length:=by exact eV
   have b:zP l i k=zO l i (k:Int) l.length:=by
    unfold zP;rw[show ((k:Int)==i||!Lb l (k:Int) i)=false by
     rw[iF,AD5,ADf];exact a]
    rfl
   refine AK (ι:={m:Nat//m<=l.length}) (λm=>⟨[(0,.p KG l),(1,.p T3 i),(5,.sr 60 T3 0 (OE l i k).length),(6,.p (.int .i64) (k:Int)),(7,.p .bool (zO l i (k:Int) m.1)),(8,.p (.int .i64) (m.1:Int))],[(60,.arr 3 T3 (OE l i k))]⟩) (λm=>l.length-m.1) ⟨0,IN _⟩ (AC [(60,.nm 60)] rfl rfl ?_ ?_) (λm=>?_)
   ·exact eN
   ·refine eM ?_;rfl
   ·obtain⟨m,j⟩:=m;have j:m<=l.length:=j;have n:=zR l i (k:Int) m;simp only;repeat'(first|exact trivial|refine eS rfl ?_|refine AB ?_|refine rX c ?_ ?_|refine rC ?_ ?_<;>intro a<;>try(cases a;done))
    ·exact⟨λh=>⟨by assumption,a,f⟩,λh=>⟨a,hi,f⟩⟩
    ·exact eV
    ·have d:m<l.length:=by exact eV
     refine⟨⟨m+1,by omega⟩,by simp only;omega,AC [(60,.nm 60)] rfl rfl ?_ ?_⟩
     ·exact eN
     ·simp only[n];unfold A8J;exact eN
    ·simp only[AP];dsimp only[Ty.den]at *;omega
    ·exact eV
    ·have d:m=l.length:=by exact eV
     subst d;rw[b,BY a]at hs;refine⟨⟨k+1,by omega⟩,by simp only;omega,AC [(60,.nm 60)] rfl rfl ?_ ?_⟩
     ·simp only[hs];exact eN
     ·simp only[hs];exact eN
    ·exact eV
    ·have d:m=l.length:=by exact eV
     subst d;rw[b,An (by rw[a];simp),Sq]at hs;refine⟨⟨k+1,by omega⟩,by simp only;omega,AC [(60,.nm 60)] rfl rfl ?_ ?_⟩
     ·simp only[hs];exact eN
     ·simp only[hs];exact eN
  ·have e:k=l.length:=by exact eV
   subst e;refine F1 [60] ?_;exact fI c [.tmp 4] (by unfold ZC;exact eR)
end
section
attribute [local go_sem] QJ Vu Ju
abbrev FV:=ByteArray×ByteArray
abbrev f0V:FV:=(ByteArray.empty,ByteArray.empty)
def dcG (all:List ByteArray) (l:List FV):Nat->List FV->Int
 | _,[]=>0
 | k,x :: r=>if Ez x.1 true=false then 1 else if ((l.take k).any λy=>AY y.1 x.1)=true then 4 else if AZ all x.2=false then 5 else dcG all l (k+1) r
def b6 (all:List ByteArray):List AI->Int
 | []=>0
 | x :: l=>if dcG all x.2.2 0 x.2.2≠0 then dcG all x.2.2 0 x.2.2 else b6 all l
def LI (d:List AI):Int:=b6 (AN d) d
theorem A3J (all:List ByteArray) (l:List FV) {k:Nat} (h:k<l.length):dcG all l k (l.drop k)=if Ez (l.getD k f0V).1 true=false then 1 else if ((l.take k).any λy=>AY y.1 (l.getD k f0V).1)=true then 4 else if AZ all (l.getD k f0V).2=false then 5 else dcG all l (k+1) (l.drop (k+1)):=by
 rw[On h];have e:l.getD k f0V=l[k]:=by simp[AS,h]
 rw[e];rfl
theorem zS (all:List ByteArray) (l:List AI) {k:Nat} (h:k<l.length):b6 all (l.drop k)=if dcG all (l.getD k d0).2.2 0 (l.getD k d0).2.2≠0 then dcG all (l.getD k d0).2.2 0 (l.getD k d0).2.2 else b6 all (l.drop (k+1)):=by
 rw[On h];have e:l.getD k d0=l[k]:=by simp[AS,h]
 rw[e];rfl
def sC:Ac:={ ins:=[FM],pre:=λ(d,_)=>List.length d<=256,out:=λ(d,_)=>[.p Ls (LI d)] }
theorem A3K:Ad Tryz.prog 193 sC:=by
 refine fK [0,2,3,4,5,6,7,13,24,33,36,49,57] Tryz.func193 Tryz.ntmps193 (AF Yz (AF rG (AF G2 AG))) ?_;rintro w0 O0 ⟨d,u⟩ c ⟨⟨x,v⟩,-⟩ j;have j:d.length<=256:=j;simp only[sC,AM];repeat'(first|exact trivial|refine eS rfl ?_|refine rX c ?_ ?_)
 ·exact Sd j (by decide)
 ·have w:LI d=b6 (AN d) d:=rfl;rw[w];generalize AN d=all at *;refine AK (ι:={i:Nat//i<=d.length/\b6 all (d.drop i)=b6 all d}) (λi=>⟨[(0,.p FM d),(3,.p F4 all),(4,.p (.int .i64) (i.1:Int))],[]⟩) (λi=>d.length-i.1) ⟨0,IN _,rfl⟩ (eW []) (λi=>?_)
  ·obtain⟨i,hi,hf⟩:=i;simp only;repeat'(first|exact trivial|refine eS rfl ?_|refine rX c ?_ ?_|refine rC ?_ ?_<;>intro a<;>try(cases a;done))
   ·exact a
   ·have o:i<d.length:=by exact eV
    rw[zS all d o]at hf;have A:(d.getD i d0).2.2.length<=AP:=(v _ (AE d d0 o)).2.2.1;have z:(List.getD d i (ByteArray.empty,[],[])).2.2=(d.getD i d0).2.2:=rfl;rw[z];generalize (d.getD i d0).2.2=l at *;simp only[AP]at A;refine AK (ι:={k:Nat//k<=l.length/\dcG all l k (l.drop k)=dcG all l 0 l}) (λk=>⟨[(0,.p FM d),(3,.p F4 all),(4,.p (.int .i64) (i:Int)),(5,.p f2 l),(6,.p (.int .i64) (k.1:Int))],[]⟩) (λk=>l.length-k.1) ⟨0,IN _,rfl⟩ (eW []) (λk=>?_)
    ·obtain⟨k,hk,b⟩:=k;have r:=λh:k<l.length=>A3J all l h;simp only;repeat'(first|exact trivial|refine eS rfl ?_|refine AB ?_|refine rX c ?_ ?_|refine rC ?_ ?_<;>intro a<;>try(cases a;done))
     ·exact a
     ·have e:k<l.length:=by exact eV
      rw[r e,BY a]at b;rw[<-b,BY (by decide)]at hf;exact fI c [.tmp 2] (by rw[<-hf];exact eR)
     ·have e:k<l.length:=by exact eV
      have q:(k:Int)<(l.length:Int):=If.2 e;rw[r e,An (by rw[a];simp)]at b;refine AK (ι:={m:Nat//m<=k/\((l.take m).any λy=>AY y.1 (l.getD k f0V).1)=false}) (λm=>⟨[(0,.p FM d),(3,.p F4 all),(4,.p (.int .i64) (i:Int)),(5,.p f2 l),(6,.p (.int .i64) (k:Int)),(7,.p (.int .i64) (m.1:Int))],[]⟩) (λm=>k-m.1) ⟨0,IN _,rfl⟩ (eW []) (λm=>?_)
      ·obtain⟨m,B,g⟩:=m;have s:=λh:m<l.length=>NP l f0V (λy=>AY y.1 (l.getD k f0V).1) h;simp only;repeat'(first|exact trivial|refine eS rfl ?_|refine AB ?_|refine rX c ?_ ?_|refine rC ?_ ?_<;>intro a<;>try(cases a;done))
       ·have h1:(m:Int)<(k:Int):=a;exact⟨by exact eV,q⟩
       ·have f:m<k:=If.1 (by assumption);have n:=s (by omega);have t:((l.take k).any λy=>AY y.1 (l.getD k f0V).1)=true:=by
         rw[Sc];exact⟨l.getD m f0V,by
          rw[ADQ];refine⟨m,by omega,?_⟩;simp[AS,show m<l.length by omega],a⟩
        rw[BY t]at b;rw[<-b,BY (by decide)]at hf;exact fI c [.tmp 2] (by rw[<-hf];exact eR)
       ·omega
       ·have f:m<k:=If.1 (by assumption);have n:=s (by omega);refine⟨⟨m+1,by omega,?_⟩,by simp only;omega,AC [] rfl rfl ?_ ?_⟩
        ·rw[n,g];exact a
        ·exact eN
        ·exact eN
       ·exact q
       ·have f:m=k:=by omega
        subst f;rw[An (by rw[g];simp),BY a]at b;rw[<-b,BY (by decide)]at hf;exact fI c [.tmp 2] (by rw[<-hf];exact eR)
       ·have:=x;simp only[AP]at this;omega
       ·have f:m=k:=by omega
        subst f;rw[An (by rw[g];simp),An (by rw[a];simp)]at b;exact⟨⟨m+1,by omega,b⟩,by simp only;omega,eW []⟩
     ·omega
     ·have e:l.drop k=[]:=By (Sb.1 a);rw[e]at b;rw[<-b,An (by simp[dcG])]at hf;exact⟨⟨i+1,by omega,hf⟩,by simp only;omega,eW []⟩
   ·have e:d.drop i=[]:=By (by exact eV);rw[e]at hf;exact fI c [.tmp 2] (by rw[<-hf];first|exact eR|refine Xy ?_;rfl)
end
section
attribute [local go_sem] bU bK MT cs0
def Hc (s:ByteArray) (o:List ByteArray) (x:AI):List ByteArray:=if (DG x s).2=true then Ec o x.1 else o
def Ff (d:List AI) (s:ByteArray):List ByteArray:=d.foldl (Hc s) []
theorem sD (s:ByteArray) (d:List AI) (k:Nat):(Ff (d.take k) s).length<=k:=by
 have key:∀(l:List AI) (o:List ByteArray),(l.foldl (Hc s) o).length<=o.length+l.length:=by
  intro l;induction l with
  | nil=>intro o;simp
  | cons x l b =>
   intro o;have h1:=b (Hc s o x);have a:(Hc s o x).length<=o.length+1:=by
    unfold Hc;split
    ·exact MR o x.1
    ·omega
   simp only[ON,OS];omega
 have h1:=key (d.take k) [];have a:=oN k d;unfold Ff;simp only[AD7]at h1;omega
def DY (d:List AI) (s:ByteArray):ByteArray×Bool:=if (A2 d (Ff d s)).length=1 then ((A2 d (Ff d s)).getD 0 ByteArray.empty,true) else (ByteArray.empty,false)
def b7:Ac:={ ins:=[FM,T9],pre:=λ(d,_,_)=>QK d/\List.length d<=256,out:=λ(d,s,_)=>[.p T9 (DY d s).1,.p .bool (DY d s).2] }
theorem nK:Ad Tryz.prog 167 b7:=by
 refine fK [0,1,4,5,6,7,9,10,14,26,39] Tryz.func167 Tryz.ntmps167 (AF m6 (AF Ro (AF V0 AG))) ?_;rintro w0 O0 ⟨d,s,u⟩ c-⟨l,f⟩;have f:d.length<=256:=f;simp only[b7,AM];repeat'(first|exact trivial|refine eS rfl ?_|refine rX c ?_ ?_)
 refine AK (ι:={i:Nat//i<=d.length}) (λi=>⟨[(0,.p FM d),(1,.p T9 s),(6,.p F4 (Ff (d.take i.1) s)),(7,.p (.int .i64) (i.1:Int))],[]⟩) (λi=>d.length-i.1) ⟨0,IN _⟩ (AC [] rfl rfl ?_ ?_) (λi=>?_)
 ·exact eN
 ·refine eM ?_;rfl
 ·obtain⟨i,hi⟩:=i;have hi:i<=d.length:=hi;have hn:=sD s d i;have hs:=λh:i<d.length=>FB (Hc s) d d0 [] h;have j:∀e,Ff e s=e.foldl (Hc s) []:=λ_=>rfl;rw[<-j,<-j]at hs;unfold Hc at hs;simp only;repeat'(first|exact trivial|refine eS rfl ?_|refine AB ?_|refine rX c ?_ ?_|refine rC ?_ ?_<;>intro a<;>try(cases a;done))
  ·exact a
  ·exact⟨by assumption,by omega⟩
  ·exact eV
  ·have b:i<d.length:=by exact eV
   have e:=hs b;rw[BY a]at e;refine⟨⟨i+1,by omega⟩,by simp only;omega,AC [] rfl rfl ?_ ?_⟩
   ·exact eN
   ·simp only[e];exact eN
  ·exact eV
  ·have b:i<d.length:=by exact eV
   have e:=hs b;rw[An (by rw[a];simp)]at e;refine⟨⟨i+1,by omega⟩,by simp only;omega,AC [] rfl rfl ?_ ?_⟩
   ·exact eN
   ·simp only[e];exact eN
  ·exact⟨l,f,by omega⟩
  ·have b:d.take i=d:=At (by exact eV);rw[b]at a ⊢;have h1:DY d s=(ByteArray.empty,false):=by
    unfold DY;rw[An (by omega)]
   exact fI c [.tmp 4,.tmp 5] (by rw[h1];first|exact eR|refine Xy ?_;first|rfl|exact⟨rfl,rfl⟩)
  ·have g:((A2 d (Ff (d.take i) s)).length:Int)=1:=by simpa using a
   have k:(0:Int)<((A2 d (Ff (d.take i) s)).length:Int):=by rw[g];decide
   exact k
  ·have b:d.take i=d:=At (by exact eV);rw[b]at a ⊢;have g:((A2 d (Ff d s)).length:Int)=1:=by simpa using a
   have h1:DY d s=((A2 d (Ff d s)).getD 0 ByteArray.empty,true):=by
    unfold DY;rw[BY (by omega)]
   exact fI c [.tmp 4,.tmp 5] (by rw[h1];exact eR)
end
section
attribute [local go_sem] bU Ud vW A3p
def KK (l:List AQ) (t:Int) (s:ByteArray) (o:List Int×Bool) (x:AI):List Int×Bool :=
 if (!(DG x s).2||!Lb l (BN l x.1) t)=true then o else (Ek o.1 (l.getD (BN l (DG x s).1).toNat c0).2,true)
def Fg (d:List AI) (l:List AQ) (t:Int) (s:ByteArray):List Int×Bool:=d.foldl (KK l t s) ((l.getD 0 c0).2,false)
def sE (d:List AI) (l:List AQ):Prop:=(∀x∈d,0<=BN l x.1)/\∀x∈d,∀y∈x.2.2,0<=BN l y.2
theorem nL (s:ByteArray):∀(l:List (ByteArray×ByteArray)),(m5 s l).2=true->∃y∈l,y.2=(m5 s l).1
 | [],h=>by cases h
 | x :: l,h=>by
  simp only[m5]at h ⊢;split at h
  ·rename_i h1;rw[BY h1];exact⟨x,by simp,rfl⟩
  ·rename_i h1;rw[An h1];obtain⟨y,a,e⟩:=nL s l h;exact⟨y,by simp[a],e⟩
theorem sE.value {d:List AI} {l:List AQ} (h:sE d l) {x:AI} (b:x∈d) {s:ByteArray} (a:(DG x s).2=true):0<=BN l (DG x s).1:=by
 obtain⟨y,c,e⟩:=nL s x.2.2 a;have:=h.2 x b y c;rw[e]at this;exact this
theorem A3L {l:List AQ} (t:Int) (s:ByteArray) (x:AI) {o:List Int×Bool} (h:o.1.length<=64):(KK l t s o x).1.length<=64:=by
 unfold KK;split
 ·exact h
 ·exact Sd (m7 _ _) h
theorem WJ {l:List AQ} (t:Int) (s:ByteArray):∀(d:List AI) {o:List Int×Bool},o.1.length<=64->(d.foldl (KK l t s) o).1.length<=64
 | [],_,h=>h
 | x :: d,_,h=>by rw[ON];exact WJ t s d (A3L t s x h)
theorem nM (s:ByteArray):∀(l:List AQ) (k:Nat),MU s k l<((k+l.length:Nat):Int)
 | [],k=>by simp only[MU];omega
 | x :: l,k=>by
  simp only[MU];split
  ·simp only[OS];omega
  ·have:=nM s l (k+1);simp only[OS];omega
theorem TQ (l:List AQ) (s:ByteArray):BN l s<(l.length:Int):=by
 have:=nM s l 0;rw[ADj]at this;exact this
def A6s:Ac:={ ins:=[FM,KG,T3,T9],pre:=λ(d,l,t,_,_)=>sE d l/\((0:Int)<=t/\t<(List.length l:Int))/\List.length l<=256/\(∀x∈(l:List AQ),x.2.length<=64),out:=λ(d,l,t,s,_)=>[.p BU (Fg d l t s).1,.p .bool (Fg d l t s).2] }
theorem A3M:Ad Tryz.prog 158 A6s:=by
 refine fK [0,1,2,3,8,9,10,11,12,13,14,22,48] Tryz.func158 Tryz.ntmps158 (AF m6 (AF Y4 (AF vX (AF A3q AG)))) ?_;rintro w0 O0 ⟨d,l,t,s,u⟩ f ⟨⟨A,G⟩,-⟩ ⟨r,j,n,w⟩;have n:l.length<=256:=n;have F:∀x∈(l:List AQ),x.2.length<=100000:=λx h=>Sd (w x h) (by decide);have q:0<List.length l:=If.1 (AEJ j.1 j.2);simp only[AP]at A;simp only[A6s,AM];repeat'(first|exact trivial|refine eS rfl ?_|refine rX f ?_ ?_)
 ·exact If.2 q
 ·have m:Fg d l t s=d.foldl (KK l t s) ((l.getD 0 c0).2,false):=rfl;have y:(l.getD 0 c0).2.length<=64:=w _ (AE l c0 q);have z:(List.getD l 0 (ByteArray.empty,[])).2=(l.getD 0 c0).2:=rfl;rw[z];generalize (l.getD 0 c0).2=c at *;refine AK (ι:={i:Nat//i<=d.length}) (λi=>⟨[(0,.p FM d),(1,.p KG l),(2,.p T3 t),(3,.p T9 s),(10,.p .bool ((d.take i.1).foldl (KK l t s) (c,false)).2),(11,.p BU ((d.take i.1).foldl (KK l t s) (c,false)).1),(12,.p (.int .i64) (i.1:Int))],[]⟩) (λi=>d.length-i.1) ⟨0,IN _⟩ (AC [] rfl rfl ?_ ?_) (λi=>?_)
  ·exact eN
  ·refine eM ?_;exact⟨rfl,rfl⟩
  ·obtain⟨i,hi⟩:=i;have hi:i<=d.length:=hi;have B:=WJ (l:=l) t s (d.take i) (o:=(c,false)) y;have hs:=λh:i<d.length=>FB (KK l t s) d d0 (c,false) h;have E:=λh:i<d.length=>r.1 _ (AE d d0 h);have D:=λ(h:i<d.length) (g:(DG (d.getD i d0) s).2=true)=>r.value (AE d d0 h) g;have k:∀o x,KK l t s o x=(if (!(DG x s).2||!Lb l (BN l x.1) t)=true then o else (Ek o.1 (l.getD (BN l (DG x s).1).toNat c0).2,true)):=λ_ _=>rfl;generalize v:(d.take i).foldl (KK l t s) (c,false)=o at *;simp only;repeat'(first|exact trivial|refine eS rfl ?_|refine AB ?_|refine rX f ?_ ?_|refine rC ?_ ?_<;>intro a<;>try(cases a;done))
   ·exact a
   ·have b:i<d.length:=If.1 a;exact⟨λ_=>a,λ_=>⟨⟨E b,TQ _ _⟩,j,F⟩⟩
   ·exact eV
   ·have b:i<d.length:=If.1 (by assumption);have e:=hs b;rw[k,BY (by rw[Su,SZ,SZ];exact a)]at e;refine⟨⟨i+1,by omega⟩,by simp only;omega,AC [] rfl rfl ?_ ?_⟩
    ·exact eN
    ·refine eM ?_;rw[e];exact⟨rfl,rfl⟩
   ·have b:i<d.length:=If.1 (by assumption);exact⟨⟨D b a.1,TQ _ _⟩,Sd B (by decide)⟩
   ·exact eV
   ·have b:i<d.length:=If.1 (by assumption);have e:=hs b;have C:¬(!(DG (d.getD i d0) s).2||!Lb l (BN l (d.getD i d0).1) t)=true:=by
     rw[Su,SZ,SZ];rintro (h|h)
     ·rw[show (DG (d.getD i d0) s).2=true from a.1]at h;cases h
     ·rw[show Lb l (BN l (d.getD i d0).1) t=true from a.2]at h;cases h
    rw[k,An C]at e;refine⟨⟨i+1,by omega⟩,by simp only;omega,AC [] rfl rfl ?_ ?_⟩
    ·exact eN
    ·refine eM ?_;rw[e];exact⟨rfl,rfl⟩
   ·have b:d.take i=d:=At (Sb.1 a);rw[b]at v;rw[v]at m;exact fI f [.tmp 8,.tmp 9] (by rw[m];exact eR)
end
theorem TR:∀ {l:List AI},MP l=0->∀x∈l,x.2.1.length<=256/\x.2.2.length<=256
 | [],_,x,a=>by cases a
 | y :: l,h,x,a=>by
  simp only[MP]at h;split at h
  ·cases h
  ·rename_i h1;rcases Do.1 a with rfl|a
   ·exact⟨by omega,by omega⟩
   ·exact TR h x a
theorem LJ {d:List AI} (h:A5 d=0):∀x∈d,x.2.1.length<=256/\x.2.2.length<=256:=by
 have h1:FN d=0:=by
  unfold A5 at h;split at h
  ·rename_i h1;exact absurd h h1
  ·rename_i h1;exact DO h1
 unfold FN at h1;split at h1
 ·cases h1
 ·exact TR h1
theorem O7 {d:List AI} (h:A5 d=0):∀x∈AL d,x.2.length<=64:=by
 intro x e;obtain⟨-,a,-⟩:=Ay h;obtain⟨b,c,rfl⟩:=DX.1 e;exact Qa (O6 a) b c
theorem nN {all:List ByteArray} {l:List FV}:∀ {r:List FV} {k:Nat},dcG all l k r=0->∀y∈r,AZ all y.2=true
 | [],_,_,y,a=>by cases a
 | x :: r,k,h,y,a=>by
  simp only[dcG]at h;split at h
  ·cases h
  ·split at h
   ·cases h
   ·split at h
    ·cases h
    ·rename_i b;rcases Do.1 a with rfl|a
     ·simpa using b
     ·exact nN h y a
theorem ZD {all:List ByteArray}:∀ {l:List AI},b6 all l=0->∀x∈l,∀y∈x.2.2,AZ all y.2=true
 | [],_,x,a=>by cases a
 | z :: l,h,x,a=>by
  simp only[b6]at h;split at h
  ·rename_i h1;exact absurd h h1
  ·rename_i h1;rcases Do.1 a with rfl|a
   ·exact nN (DO h1)
   ·exact ZD h x a
theorem Qc {d:List AI} (h:A5 d=0) (b:LI d=0):sE d (AL d) :=
 ⟨λx a=>TP h a,λx a y c=>G9 h (ZD b x a y c)⟩
section
attribute [local go_sem] Rz WB sC b7 A6s
def LK (d:List AI) (l:List AQ) (t:Nat) (s:ByteArray):Bool:=(Fg d l (t:Int) s).2&&((Fg d l (t:Int) s).1.length:Int)==0
def b8 (d:List AI) (l:List AQ) (f:List ByteArray) (t:Nat):Bool:=f.any (LK d l t)
def Ii (d:List AI) (l:List AQ) (f:List ByteArray) (n:Nat):Bool:=(List.range n).any (b8 d l f)
theorem nP (d:List AI) (l:List AQ) (f:List ByteArray) (n:Nat):Ii d l f (n+1)=(Ii d l f n||b8 d l f n):=by
 unfold Ii;rw[UJ,AE3];simp
def Ax (d:List AI):Int :=
 if (B6 d).2≠0 then (B6 d).2 else if 64<(BO d).length then 7 else if LI d≠0 then LI d else
 if ((BO d).all λs=>(DY d s).2)=false then 10 else if Ii d (B6 d).1 (BO d) (B6 d).1.length=true then 11 else 0
def Ue:Ac:={ ins:=[FM],pre:=λ_=>True,out:=λ(d,_)=>[.p Ls (Ax d)] }
theorem ZE:Ad Tryz.prog 156 Ue:=by
 refine fK [0,2,3,4,5,6,7,9,10,11,12,13,20,26,30,35,48,52,58,77] Tryz.func156 Tryz.ntmps156 (AF Qb (AF WC (AF A3K (AF nK (AF A3M AG))))) ?_;rintro w0 O0 ⟨d,u⟩ b - -;simp only[Ue,AM];repeat'(first|exact trivial|refine eS rfl ?_|refine rX b ?_ ?_|refine rC ?_ ?_<;>intro a<;>try(cases a;done))
 ·have h1:Ax d=(B6 d).2:=by unfold Ax;rw[BY a]
  exact fI b [.tmp 2] (by rw[h1];exact eR)
 ·have c:(B6 d).2=0:=by simpa using a
  obtain⟨e,-,-⟩:=Ba c;obtain⟨-,r,-⟩:=Ay e;exact⟨r,λx L=>(LJ e x L).2⟩
 ·have c:(B6 d).2=0:=by simpa using ‹((B6 d).2 != 0)=false›
  have h1:Ax d=7:=by
   unfold Ax;rw[An (by rw[c];simp),BY (by omega)]
  exact fI b [.tmp 2] (by rw[h1];exact eR)
 ·have c:(B6 d).2=0:=by simpa using ‹((B6 d).2 != 0)=false›
  obtain⟨e,-,-⟩:=Ba c;exact(Ay e).2.1
 ·have c:(B6 d).2=0:=by simpa using ‹((B6 d).2 != 0)=false›
  have h1:Ax d=LI d:=by
   unfold Ax;rw[An (by rw[c];simp),An (by omega),BY a]
  exact fI b [.tmp 2] (by rw[h1];exact eR)
 ·have c:(B6 d).2=0:=by simpa using ‹((B6 d).2 != 0)=false›
  have v:LI d=0:=by simpa using a
  obtain⟨e,C,B⟩:=Ba c;obtain⟨H,r,-⟩:=Ay e;have E:=Qc e v;have K:=O7 e;have M:=v6 e;have D:(AL d).length<=256:=by rw[Ig];exact C
  have g:Ax d=if ((BO d).all λs=>(DY d s).2)=false then 10 else if Ii d (B6 d).1 (BO d) (B6 d).1.length=true then 11 else 0:=by
   unfold Ax;rw[An (by rw[c];simp),An (by omega),An (by rw[v];simp)]
  rw[B]at g ⊢;generalize AL d=l at *;generalize BO d=f at *;refine AK (ι:={i:Nat//i<=f.length/\((f.take i).all λs=>(DY d s).2)=true}) (λi=>⟨[(0,.p FM d),(3,.p KG l),(5,.p F4 f),(7,.p (.int .i64) (i.1:Int))],[]⟩) (λi=>f.length-i.1) ⟨0,IN _,rfl⟩ (eW []) (λi=>?_)
  ·obtain⟨i,hi,n⟩:=i;have G:=λh:i<f.length=>Gf f ByteArray.empty (λs=>(DY d s).2) h;simp only;repeat'(first|exact trivial|refine eS rfl ?_|refine AB ?_|refine rX b ?_ ?_|refine rC ?_ ?_<;>intro a<;>try(cases a;done))
   ·exact⟨a,H,r⟩
   ·have j:i<f.length:=If.1 (by assumption);have z:(f.all λs=>(DY d s).2)=false:=by
     rw[ADE];intro h;have:=IS.1 h _ (AE f ByteArray.empty j);rw[show (DY d (f.getD i ByteArray.empty)).2=false from a]at this;cases this
    rw[BY z]at g;exact fI b [.tmp 2] (by rw[g];exact eR)
   ·omega
   ·have j:i<f.length:=If.1 (by assumption);refine⟨⟨i+1,j,?_⟩,by simp only;omega,AC [] rfl rfl ?_ ?_⟩
    ·rw[G j,n];exact a
    ·exact eN
    ·exact eN
   ·have j:f.take i=f:=At (Sb.1 a);rw[j]at n;rw[An (by rw[n];simp)]at g;refine AK (ι:={t:Nat//t<=l.length/\Ii d l f t=false}) (λt=>⟨[(0,.p FM d),(3,.p KG l),(5,.p F4 f),(10,.p (.int .i64) (t.1:Int))],[]⟩) (λt=>l.length-t.1) ⟨0,IN _,rfl⟩ (eW []) (λt=>?_)
    ·obtain⟨t,N,y⟩:=t;have J:=nP d l f t;simp only;repeat'(first|exact trivial|refine eS rfl ?_|refine rX b ?_ ?_|refine rC ?_ ?_<;>intro a<;>try(cases a;done))
     ·have w:t<l.length:=If.1 a;refine AK (ι:={k:Nat//k<=f.length/\(f.take k).any (LK d l t)=false}) (λk=>⟨[(0,.p FM d),(3,.p KG l),(5,.p F4 f),(10,.p (.int .i64) (t:Int)),(11,.p (.int .i64) (k.1:Int))],[]⟩) (λk=>f.length-k.1) ⟨0,IN _,rfl⟩ (eW []) (λk=>?_)
      ·obtain⟨k,hk,o⟩:=k;have F:=λh:k<f.length=>NP f ByteArray.empty (LK d l t) h;simp only;repeat'(first|exact trivial|refine eS rfl ?_|refine AB ?_|refine rX b ?_ ?_|refine rC ?_ ?_<;>intro a<;>try(cases a;done))
       ·exact⟨a,E,by assumption,D,K⟩
       ·have m:k<f.length:=If.1 (by assumption);have q:LK d l t (f.getD k ByteArray.empty)=true:=by
         unfold LK;rw[AT,UH];exact a
        have A:Ii d l f l.length=true:=by
         unfold Ii;rw[Sc];exact⟨t,Sl.2 w,JL f ByteArray.empty _ m q⟩
        rw[BY A]at g;exact fI b [.tmp 2] (by rw[g];exact eR)
       ·omega
       ·have m:k<f.length:=If.1 (by assumption);have q:LK d l t (f.getD k ByteArray.empty)=false:=by
         rw[ADE];unfold LK;intro h;rw[AT,UH]at h;exact a h.1 h.2
        refine⟨⟨k+1,m,?_⟩,by simp only;omega,AC [] rfl rfl ?_ ?_⟩
        ·rw[F m,o,q];rfl
        ·exact eN
        ·exact eN
       ·omega
       ·have m:f.take k=f:=At (Sb.1 a);rw[m]at o;refine⟨⟨t+1,w,?_⟩,by simp only;omega,AC [] rfl rfl ?_ ?_⟩
        ·rw[J,y];exact o
        ·exact eN
        ·exact eN
     ·have I:t=l.length:=by exact eV
      subst I;rw[An (by rw[y];simp)]at g;exact fI b [.tmp 2] (by rw[g];exact eR)
end
section
attribute [local go_sem] Ue Rz WB b7 Ud
abbrev ZF:=ByteArray×Int
theorem CC {d:List AI} (h:Ax d=0):(B6 d).2=0/\(BO d).length<=64/\LI d=0:=by
 unfold Ax at h;split at h
 ·rename_i h1;exact absurd h h1
 ·rename_i h1;split at h
  ·cases h
  ·rename_i b;split at h
   ·rename_i a;exact absurd h a
   ·rename_i a;exact⟨DO h1,by omega,DO a⟩
def Qd (d:List AI) (s:ByteArray):ZF:=(s,BN (AL d) (DY d s).1)
def EV (d:List AI):List ZF×Int:=if Ax d≠0 then ([],Ax d) else ((BO d).map (Qd d),0)
theorem EW {α β:Type} (f:α->β) (l:List α) (d:α) {k:Nat} (h:k<l.length):(l.take (k+1)).map f=(l.take k).map f++[f (l.getD k d)]:=by
 rw[A0 l d h,gO];rfl
theorem b9 {α β:Type} (f:α->β) (l:List α) {k:Nat} (h:k<=l.length):((l.take k).map f).length=k:=by simp[h]
def R0:Ac:={ ins:=[FM],pre:=λ_=>True,out:=λ(d,_)=>[.p Yu (EV d).1,.p Ls (EV d).2] }
theorem nQ:Ad Tryz.prog 120 R0:=by
 refine fK [0,2,3,4,5,7,8,9,10,15,27] Tryz.func120 Tryz.ntmps120 (AF ZE (AF Qb (AF WC (AF nK (AF Y4 AG))))) ?_;rintro w0 O0 ⟨d,u⟩ g - -;simp only[R0,AM];repeat'(first|exact trivial|refine eS rfl ?_|refine rX g ?_ ?_|refine rC ?_ ?_<;>intro a<;>try(cases a;done))
 ·have h1:EV d=([],Ax d):=by unfold EV;rw[BY a]
  exact fI g [.tmp 2,.tmp 3] (by rw[h1];exact eR)
 ·have c:Ax d=0:=by simpa using a
  obtain⟨k,-,-⟩:=CC c;obtain⟨b,-,-⟩:=Ba k;exact⟨(Ay b).2.1,λx r=>(LJ b x r).2⟩
 ·have c:Ax d=0:=by simpa using a
  obtain⟨k,s,-⟩:=CC c;obtain⟨b,-,m⟩:=Ba k;obtain⟨q,l,-⟩:=Ay b;have o:EV d=((BO d).map (Qd d),0):=by unfold EV;rw[An (by rw[c];simp)]
  rw[m];generalize BO d=f at *;refine AK (ι:={i:Nat//i<=f.length}) (λi=>⟨[(0,.p FM d),(5,.p KG (AL d)),(7,.p F4 f),(8,.sr 49 A20 0 ((f.take i.1).map (Qd d)).length),(9,.p (.int .i64) (i.1:Int))],[(49,.arr 163 A20 ((f.take i.1).map (Qd d)))]⟩) (λi=>f.length-i.1) ⟨0,IN _⟩ (eW [(49,.nil)]) (λi=>?_)
  ·obtain⟨i,hi⟩:=i;have n:=b9 (Qd d) f hi;have hs:=λh:i<f.length=>EW (Qd d) f ByteArray.empty h;simp only;repeat'(first|exact trivial|refine eS rfl ?_|refine AB ?_|refine rX g ?_ ?_|refine rC ?_ ?_<;>intro a<;>try(cases a;done))
   ·exact⟨a,q,l⟩
   ·refine⟨a,?_⟩;rw[n];simp only[AP];omega
   ·omega
   ·have j:i<f.length:=If.1 a;have e:=hs j;refine⟨⟨i+1,j⟩,by simp only;omega,AC [(49,.nm 49)] rfl rfl ?_ ?_⟩
    ·simp only[e];refine eM ?_;rfl
    ·simp only[e];exact eN
   ·have j:f.take i=f:=At (Sb.1 a);rw[j];refine F1 [49] ?_;exact fI g [.tmp 2,.tmp 3] (by rw[o];exact eR)
end
section
attribute [local go_sem] Ue Rz WB A6s rR
def UB (d:List AI) (l:List AQ) (f:List ByteArray) (t:Nat) (n:Nat):List (Int×Int) :=
 ((List.range n).filter λ(i:Nat)=>(Fg d l (t:Int) (f.getD i ByteArray.empty)).2).map λ(i:Nat)=>((i:Int),HS l (Fg d l (t:Int) (f.getD i ByteArray.empty)).1)
def KL (d:List AI) (l:List AQ) (f:List ByteArray) (n:Nat):List (List (Int×Int)):=(List.range n).map λt=>UB d l f t f.length
def BA (d:List AI):List (List (Int×Int))×Int:=if Ax d≠0 then ([],Ax d) else (KL d (AL d) (BO d) (AL d).length,0)
theorem ZG (d:List AI) (l:List AQ) (f:List ByteArray) (t n:Nat):UB d l f t (n+1)=UB d l f t n++if (Fg d l (t:Int) (f.getD n ByteArray.empty)).2=true then [((n:Int),HS l (Fg d l (t:Int) (f.getD n ByteArray.empty)).1)] else []:=by
 unfold UB;rw[UJ,ADO,gO]
 congr 1
 rw[bY,AE2];split<;>rfl
theorem A3N (d:List AI) (l:List AQ) (f:List ByteArray) (t n:Nat):(UB d l f t n).length<=n:=by
 unfold UB;rw[SX];exact Sd (aS _ _) (by simp)
theorem sF (d:List AI) (l:List AQ) (f:List ByteArray) (n:Nat):KL d l f (n+1)=KL d l f n++[UB d l f n f.length]:=by simp[KL,UJ]
theorem ZH (d:List AI) (l:List AQ) (f:List ByteArray) (n:Nat):(KL d l f n).length=n:=by simp[KL]
theorem A3O {d:List AI} {l:List AQ} (h:∀x∈l,x.2.length<=64) (t:Int) (s:ByteArray):(Fg d l t s).1.length<=64:=by
 unfold Fg;refine WJ t s d ?_;rw[AS];cases hh:l[0]? with
 | none=>simp
 | some x=>exact h x (f3 hh)
def WK:Ac:={ ins:=[FM],pre:=λ_=>True,out:=λ(d,_)=>[.p A6d (BA d).1,.p Ls (BA d).2] }
theorem sG:Ad Tryz.prog 117 WK:=by
 refine fK [0,2,3,4,5,7,8,9,10,11,12,13,17,29,35,49] Tryz.func117 Tryz.ntmps117 (AF ZE (AF Qb (AF WC (AF A3M (AF A3z AG))))) ?_;rintro w0 O0 ⟨d,u⟩ e - -;simp only[WK,AM];repeat'(first|exact trivial|refine eS rfl ?_|refine rX e ?_ ?_|refine rC ?_ ?_<;>intro a<;>try(cases a;done))
 ·have h1:BA d=([],Ax d):=by unfold BA;rw[BY a]
  exact fI e [.tmp 2,.tmp 3] (by rw[h1];exact eR)
 ·have h:Ax d=0:=by simpa using a
  obtain⟨m,-,-⟩:=CC h;obtain⟨b,-,-⟩:=Ba m;exact⟨(Ay b).2.1,λx z=>(LJ b x z).2⟩
 ·have h:Ax d=0:=by simpa using a
  obtain⟨m,B,o⟩:=CC h;obtain⟨b,j,r⟩:=Ba m;obtain⟨D,A,-⟩:=Ay b;have y:BA d=(KL d (AL d) (BO d) (AL d).length,0):=by unfold BA;rw[An (by rw[h];simp)]
  have w:=Qc b o;have n:=O7 b;have v:(AL d).length<=256:=by rw[Ig];exact j
  rw[r];generalize AL d=l at *;generalize BO d=f at *;have q:=λt s=>A3O (d:=d) n t s;refine AK (ι:={t:Nat//t<=l.length}) (λt=>⟨[(0,.p FM d),(5,.p KG l),(7,.p F4 f),(8,.sr 61 Vs 0 (KL d l f t.1).length),(9,.p (.int .i64) (t.1:Int))],[(61,.arr 142 Vs (KL d l f t.1))]⟩) (λt=>l.length-t.1) ⟨0,IN _⟩ (AC [(61,.nil)] rfl rfl ?_ ?_) (λt=>?_)
  ·refine eM ?_;rfl
  ·refine eM ?_;rfl
  ·obtain⟨t,E⟩:=t;have j:=ZH d l f t;have hs:=sF d l f t;simp only;repeat'(first|exact trivial|refine eS rfl ?_|refine rX e ?_ ?_|refine rC ?_ ?_<;>intro a<;>try(cases a;done))
   ·refine AK (ι:={i:Nat//i<=f.length}) (λi=>⟨[(0,.p FM d),(5,.p KG l),(7,.p F4 f),(8,.sr 61 Vs 0 (KL d l f t).length),(9,.p (.int .i64) (t:Int)),(10,.sr 57 A21 0 (UB d l f t i.1).length),(11,.p (.int .i64) (i.1:Int))],[(61,.arr 142 Vs (KL d l f t)),(57,.arr 170 A21 (UB d l f t i.1))]⟩) (λi=>f.length-i.1) ⟨0,IN _⟩ (AC [(61,.nm 61),(57,.nil)] rfl rfl ?_ ?_) (λi=>?_)
    ·refine eM ?_;rfl
    ·refine eM ?_;rfl
    ·obtain⟨i,hi⟩:=i;have C:=A3N d l f t i;have c:=ZG d l f t i;simp only;repeat'(first|exact trivial|refine eS rfl ?_|refine AB ?_|refine rX e ?_ ?_|refine rC ?_ ?_<;>intro a<;>try(cases a;done))
     ·exact⟨a,w,by assumption,v,n⟩
     ·refine⟨Sd (q _ _) (by decide),?_⟩;simp only[AP];omega
     ·omega
     ·have g:i<f.length:=If.1 (by assumption);rw[BY a]at c;refine⟨⟨i+1,g⟩,by simp only;omega,AC [(61,.nm 61),(57,.nm 57)] rfl rfl ?_ ?_⟩
      ·simp only[c];exact eN
      ·simp only[c];exact eN
     ·omega
     ·have g:i<f.length:=If.1 (by assumption);rw[An (by rw[a];simp),Sq]at c;refine⟨⟨i+1,g⟩,by simp only;omega,AC [(61,.nm 61),(57,.nm 57)] rfl rfl ?_ ?_⟩
      ·simp only[c];exact eN
      ·simp only[c];exact eN
     ·rw[j];simp only[AP];omega
     ·omega
     ·have k:t<l.length:=If.1 (by assumption);have g:i=f.length:=by omega
      subst g;refine⟨⟨t+1,k⟩,by simp only;omega,AC [(61,.nm 61)] rfl rfl ?_ ?_⟩
      ·simp only[hs];exact eN
      ·simp only[hs];exact eN
   ·have k:t=l.length:=by omega
    subst k;refine F1 [61] ?_;exact fI e [.tmp 2,.tmp 3] (by rw[y];exact eR)
end
section
attribute [local go_sem] cs0
def Lc (l:List ByteArray) (n:Nat):List FV:=(List.range n).map λk=>(l.getD (2*k) ByteArray.empty,l.getD (2*k+1) ByteArray.empty)
theorem WL (l:List ByteArray) (n:Nat):Lc l (n+1)=Lc l n++[(l.getD (2*n) ByteArray.empty,l.getD (2*n+1) ByteArray.empty)]:=by simp[Lc,UJ]
theorem ZI (l:List ByteArray) (n:Nat):(Lc l n).length=n:=by simp[Lc]
def cA (s:ByteArray):List ByteArray:=if AY s ByteArray.empty=true then [] else [s]
def GS (n s:ByteArray) (l:List ByteArray):AI:=(n,cA s,Lc l (l.length / 2))
def A3P:Ac:={ ins:=[T9,T9,F4],pre:=λ(_,_,l,_)=>List.length l<=1000,out:=λ(n,s,l,_)=>[.p y5 (GS n s l)] }
theorem A6t:Ad Tryz.prog 121 A3P:=by
 refine fK [0,1,2,6,7,8,12,20] Tryz.func121 Tryz.ntmps121 AG ?_;rintro w0 O0 ⟨n,s,l,u⟩ b-i;have i:l.length<=1000:=i;simp only[A3P,AM];repeat'(first|exact trivial|refine eS rfl ?_|refine AB ?_|refine rX b ?_ ?_|refine rC ?_ ?_<;>intro a<;>try(cases a;done))
 ·have f:=a;refine F1 [14] ?_;refine AK (ι:={k:Nat//2*k<=l.length}) (λk=>⟨[(2,.p F4 l),(6,.bp 6 [] 0),(7,.bp 7 [] 0),(8,.p (.int .i64) ((2*k.1:Nat):Int))],[(6,.box 158 true [.p T9 ByteArray.empty,.raw (.slice none 0 0),.raw (.slice none 0 0)]),(7,.box 158 true [.p T9 n,.p F4 [s],.sr 36 q9 0 (Lc l k.1).length]),(36,.arr 161 q9 (Lc l k.1))]⟩) (λk=>l.length-2*k.1) ⟨0,IN _⟩ (AC [(6,.nm 6),(7,.nm 7),(36,.nil)] rfl rfl ?_ ?_) (λk=>?_)
  ·first|exact eN|refine eM ?_
   exact⟨rfl,rfl⟩
  ·first|exact eN|refine eM ?_
  ·obtain⟨k,hk⟩:=k;have g:=ZI l k;have d:=WL l k;simp only;repeat'(first|exact trivial|refine eS rfl ?_|refine AB ?_|refine rX b ?_ ?_|refine rC ?_ ?_<;>intro a<;>try(cases a;done))
   ·exact eV
   ·refine⟨by exact eV,⟨by exact eV,by exact eV⟩,⟨by exact eV,by exact eV⟩,?_⟩;rw[g];simp only[AP];exact eV
   ·exact eV
   ·have c:2*k+1<l.length:=by exact eV
    have e:((2*k:Nat):Int)+1=((2*k+1:Nat):Int):=by omega
    refine⟨⟨k+1,by omega⟩,by simp only;omega,AC [(6,.nm 6),(7,.nm 7),(36,.nm 36)] rfl rfl ?_ ?_⟩
    ·simp only[d];first|exact eN|refine eM ?_
     rw[e];rfl
    ·simp only[d];first|exact eN|refine eM ?_
     show ((2*k:Nat):Int)+2=((2*(k+1):Nat):Int);omega
   ·have c:k=l.length / 2:=by exact eV
    refine F1 [36] ?_;have h:GS n s l=(n,[s],Lc l k):=by
     unfold GS cA;rw[<-c,An (by rw[show AY s ByteArray.empty=false from f];simp)]
    exact fI b [.cell 6 158] (by rw[h];exact eR)
 ·have f:=a;refine AK (ι:={k:Nat//2*k<=l.length}) (λk=>⟨[(2,.p F4 l),(6,.bp 6 [] 0),(7,.bp 7 [] 0),(8,.p (.int .i64) ((2*k.1:Nat):Int))],[(6,.box 158 true [.p T9 ByteArray.empty,.raw (.slice none 0 0),.raw (.slice none 0 0)]),(7,.box 158 true [.p T9 n,.p F4 ([]:List ByteArray),.sr 36 q9 0 (Lc l k.1).length]),(36,.arr 161 q9 (Lc l k.1))]⟩) (λk=>l.length-2*k.1) ⟨0,IN _⟩ (AC [(6,.nm 6),(7,.nm 7),(36,.nil)] rfl rfl ?_ ?_) (λk=>?_)
  ·first|exact eN|refine eM ?_
   exact⟨rfl,rfl⟩
  ·first|exact eN|refine eM ?_
  ·obtain⟨k,hk⟩:=k;have g:=ZI l k;have d:=WL l k;simp only;repeat'(first|exact trivial|refine eS rfl ?_|refine AB ?_|refine rX b ?_ ?_|refine rC ?_ ?_<;>intro a<;>try(cases a;done))
   ·exact eV
   ·refine⟨by exact eV,⟨by exact eV,by exact eV⟩,⟨by exact eV,by exact eV⟩,?_⟩;rw[g];simp only[AP];exact eV
   ·exact eV
   ·have c:2*k+1<l.length:=by exact eV
    have e:((2*k:Nat):Int)+1=((2*k+1:Nat):Int):=by omega
    refine⟨⟨k+1,by omega⟩,by simp only;omega,AC [(6,.nm 6),(7,.nm 7),(36,.nm 36)] rfl rfl ?_ ?_⟩
    ·simp only[d];first|exact eN|refine eM ?_
     rw[e];rfl
    ·simp only[d];first|exact eN|refine eM ?_
     show ((2*k:Nat):Int)+2=((2*(k+1):Nat):Int);omega
   ·have c:k=l.length / 2:=by exact eV
    refine F1 [36] ?_;have h:GS n s l=(n,([]:List ByteArray),Lc l k):=by
     unfold GS cA;rw[<-c,BY (show AY s ByteArray.empty=true from f)]
    exact fI b [.cell 6 158] (by rw[h];exact eR)
end
section
attribute [local go_sem] A3P cs0 cs1 cs2 cs3 cs4 cs5 cs6 cs7 cs8
def Cv:List AI:=[
 GS { data:=#[116,111,112] } { data:=#[] } [],
 GS { data:=#[108,105,115,116] } { data:=#[116,111,112] } [],
 GS { data:=#[99,111,110,115] } { data:=#[108,105,115,116] } [{ data:=#[70,73,82,83,84] },{ data:=#[116,111,112] },{ data:=#[82,69,83,84] },{ data:=#[108,105,115,116] }],
 GS { data:=#[110,117,108,108] } { data:=#[108,105,115,116] } [],
 GS { data:=#[100,108,105,115,116] } { data:=#[116,111,112] } [{ data:=#[76,73,83,84] },{ data:=#[108,105,115,116] },{ data:=#[76,65,83,84] },{ data:=#[108,105,115,116] }],
 GS { data:=#[105,110,100,101,120] } { data:=#[116,111,112] } [],
 GS { data:=#[104,97,110,100,108,101] } { data:=#[105,110,100,101,120] } [],
 GS { data:=#[101,118,101,110,116] } { data:=#[105,110,100,101,120] } [],
 GS { data:=#[101,110,116,105,116,121] } { data:=#[105,110,100,101,120] } [],
 GS { data:=#[114,101,108] } { data:=#[116,111,112] } [{ data:=#[76,65,66,69,76] },{ data:=#[104,97,110,100,108,101] }],
 GS { data:=#[113,101,113] } { data:=#[116,111,112] } [{ data:=#[72,73,71,72] },{ data:=#[104,97,110,100,108,101] },{ data:=#[76,79,87] },{ data:=#[104,97,110,100,108,101] }],
 GS { data:=#[115,101,109] } { data:=#[116,111,112] } [{ data:=#[84,79,80] },{ data:=#[104,97,110,100,108,101] },{ data:=#[73,78,68,69,88] },{ data:=#[105,110,100,101,120] },{ data:=#[82,69,76,83] },{ data:=#[100,108,105,115,116] },{ data:=#[67,79,78,83] },{ data:=#[100,108,105,115,116] }],
 GS { data:=#[115,105,103,110] } { data:=#[116,111,112] } [{ data:=#[83,69,77] },{ data:=#[115,101,109] },{ data:=#[65,82,71,83] },{ data:=#[108,105,115,116] }]]
def KM:Ac:={ ins:=[],pre:=λ_=>True,out:=λ_=>[.p FM Cv] }
theorem WM:Ad Tryz.prog 63 KM:=by
 refine fKP [0] [3,6,12,14,16,18,20] [] Tryz.func63 Tryz.ntmps63 (AF A6t AG) ?_;rintro w0 O0 u a - -;simp only[KM,AM];repeat'(first|exact trivial|refine eS rfl ?_|refine rX a ?_ ?_)
 exact fI a [.tmp 0] (by unfold Cv;exact eR)
end
section
attribute [local go_sem] WK Rz A3I R0
abbrev HA:=ByteArray×List Int×List Int×List (Int×Int)
abbrev AH:=List HA×List ZF
def Eh (l:List AQ) (v:List (List (Int×Int))) (n:Nat):List HA:=(List.range n).map λi=>((l.getD i c0).1,(l.getD i c0).2,ZC l (i:Int),v.getD i [])
theorem sH (l:List AQ) (v:List (List (Int×Int))) (n:Nat):Eh l v (n+1)=Eh l v n++[((l.getD n c0).1,(l.getD n c0).2,ZC l (n:Int),v.getD n [])]:=by simp[Eh,UJ]
theorem KN (l:List AQ) (v:List (List (Int×Int))) (n:Nat):(Eh l v n).length=n:=by simp[Eh]
def Br (d:List AI):AH:=(Eh (AL d) (BA d).1 (AL d).length,(EV d).1)
def Ar (d:List AI):AH×Int:=if (BA d).2≠0 then (([],[]),(BA d).2) else (Br d,0)
def KO:Ac:={ ins:=[FM],pre:=λ_=>True,out:=λ(d,_)=>[.p Eg (Ar d).1,.p Ls (Ar d).2] }
theorem sI:Ad Tryz.prog 62 KO:=by
 refine fK [0,2,3,4,5,6,8,9,10,18,29] Tryz.func62 Tryz.ntmps62 (AF sG (AF Qb (AF A6q (AF nQ AG)))) ?_;rintro w0 O0 ⟨d,u⟩ b - -;simp only[KO,AM];repeat'(first|exact trivial|refine eS rfl ?_|refine rX b ?_ ?_|refine rC ?_ ?_<;>intro a<;>try(cases a;done))
 ·have h1:Ar d=(([],[]),(BA d).2):=by unfold Ar;rw[BY a]
  exact fI b [.cell 2 31,.tmp 3] (by rw[h1];exact eR)
 ·have c:(BA d).2=0:=by simpa using a
  have f:Ax d=0:=by
   unfold BA at c;split at c
   ·rename_i h;exact absurd c h
   ·rename_i h;exact DO h
  obtain⟨t,x,w⟩:=CC f;obtain⟨j,m,k⟩:=Ba t;have g:Ar d=(Br d,0):=by unfold Ar;rw[An (by rw[c];simp)]
  have r:(BA d).1.length=(AL d).length:=by
   unfold BA;rw[An (by rw[f];simp)];exact ZH _ _ _ _
  have s:=O7 j;have o:(AL d).length<=256:=by rw[Ig];exact m
  unfold Br at g;rw[k];generalize AL d=l at *;generalize (BA d).1=v at *;refine AK (ι:={n:Nat//n<=l.length}) (λn=>⟨[(0,.p FM d),(2,.bp 2 [] 0),(4,.p A6d v),(6,.p KG l),(8,.bp 8 [] 0),(9,.p (.int .i64) (n.1:Int))],[(2,.box 31 true [.raw (.slice none 0 0),.raw (.slice none 0 0)]),(8,.box 31 true [.sr 53 rA 0 (Eh l v n.1).length,.raw (.slice none 0 0)]),(53,.arr 144 rA (Eh l v n.1))]⟩) (λn=>l.length-n.1) ⟨0,IN _⟩ (AC [(2,.nm 2),(8,.nm 8),(53,.nil)] rfl rfl ?_ ?_) (λn=>?_)
  ·refine eM ?_;exact⟨rfl,rfl⟩
  ·exact eN
  ·obtain⟨n,hn⟩:=n;have q:=KN l v n;have i:=sH l v n;simp only;repeat'(first|exact trivial|refine eS rfl ?_|refine AB ?_|refine rX b ?_ ?_|refine rC ?_ ?_<;>intro a<;>try(cases a;done))
   ·refine⟨a,a,⟨a,o,s⟩,by rw[r];exact a,?_⟩;rw[q];simp only[AP];omega
   ·omega
   ·have e:n<l.length:=If.1 a;refine⟨⟨n+1,e⟩,by simp only;omega,AC [(2,.nm 2),(8,.nm 8),(53,.nm 53)] rfl rfl ?_ ?_⟩
    ·simp only[i];exact eN
    ·simp only[i];exact eN
   ·have e:n=l.length:=by omega
    subst e;refine F1 [53] ?_;exact fI b [.cell 2 31,.tmp 3] (by rw[g];exact eR)
def HB (d:List AI):AH:=if d.length<=20/\(Ar d).2=0 then (Ar d).1 else (Ar Cv).1
end
abbrev ACr:=Int×List (Int×Int)
def GD (f:List ACr):Bool:=decide (f.length<=12)&&f.all λn=>decide (n.2.length<=12)
def MY:Ac:={ ins:=[Dw],pre:=λ_=>True,out:=λ(f,_)=>[.p .bool (GD f)] }
theorem A3Q:Ad Tryz.prog 18 MY:=by
 refine fK [0,1,2,3,7,12,22] Tryz.func18 Tryz.ntmps18 AG ?_;rintro w0 O0 ⟨l,u⟩ a e f;simp only[MY,AM];repeat'(first|exact trivial|refine eS rfl ?_|refine rX a ?_ ?_|refine rC ?_ ?_<;>intro b<;>try(cases b;done))
 ·have h1:GD l=false:=by
   have h:¬(List.length l<=12):=by exact eV
   unfold GD;rw[ADn h];rfl
  exact fI a [.tmp 2] (by rw[h1];exact eR)
 ·refine AK (ι:={k:Nat//k<=l.length/\(l.take k).all (λn=>decide (n.2.length<=12))=true}) (λk=>⟨[(0,.p Dw l),(1,.bp 1 [] 0),(3,.p (.int .i64) (k.1:Int))],[(1,.box 25 true [.p Fe l])]⟩) (λk=>l.length-k.1) ⟨0,by simp⟩ (AC [(1,.nm 1)] rfl rfl ?_ ?_) (λk=>?_)
  ·exact eN
  ·exact eN
  ·obtain⟨k,hk,c⟩:=k;repeat'(first|exact trivial|refine eS rfl ?_|refine AB ?_|refine rX a ?_ ?_|refine rC ?_ ?_<;>intro b<;>try(cases b;done))
   ·exact eV
   ·have h1:GD l=false:=by
     have hk:k<l.length:=by exact eV
     have h:=AE l (0,[]) hk;unfold GD;rw[ACT];right;rw[ADl];exact⟨_,h,by simp only[Fj];exact eV⟩
    exact fI a [.tmp 2] (by rw[h1];exact eR)
   ·exact eV
   ·have hk:k<l.length:=by exact eV
    refine⟨⟨k+1,by exact eV,?_⟩,by simp only;exact eV,AC [(1,.nm 1)] rfl rfl ?_ ?_⟩
    ·have h1:=A0 l (0,[]) hk;have d:((l.take (k+1)).all λn=>decide (n.2.length<=12))=_:=AD0 (λx=>List.all x λn=>decide (n.2.length<=12)) h1;rw[d,AE4,c];simp only[ADv,List.all_nil,Bool.and_true,AER,Fj];exact eV
    ·exact eN
    ·exact eN
   ·have h1:GD l=true:=by
     have hk:l.take k=l:=At (by exact eV);rw[hk]at c;unfold GD;rw[c,ADm (by exact eV)];rfl
    exact fI a [.tmp 2] (by rw[h1];exact eR)
def HC (n:Int) (seen:List (Int×Int)):List (Int×Int)->Int
 | []=>0
 | x :: r=>if x.1<0\/x.2<0\/n<=x.2 then 2 else if (seen.any λy=>y.1==x.1)=true then 4 else HC n (seen++[x]) r
def Ij (l:List (Int×Int)) (n:Int):Int:=HC n [] l
def nS:Ac:={ ins:=[DN,T3],pre:=λ_=>True,out:=λ(l,n,_)=>[.p Ls (Ij l n)] }
theorem O8 (n:Int) (l:List (Int×Int)) {k:Nat} (h:k<l.length):HC n (l.take k) (l.drop k)=if (l.getD k (0,0)).1<0\/(l.getD k (0,0)).2<0\/n<=(l.getD k (0,0)).2 then 2 else if ((l.take k).any λy=>y.1==(l.getD k (0,0)).1)=true then 4 else HC n (l.take (k+1)) (l.drop (k+1)):=by
 rw[A0 l (0,0) h,On h,AS,As h];rfl
theorem YF (l:List (Int×Int)) (f:Int) {k:Nat} (h:k<l.length):((l.take (k+1)).any λy=>y.1==f)=((l.take k).any (λy=>y.1==f)||((l.getD k (0,0)).1==f)):=by
 rw[A0 l (0,0) h,AE3];simp
theorem A6u:Ad Tryz.prog 174 nS:=by
 refine fK [0,1,4,5,6,10,35,38,51] Tryz.func174 Tryz.ntmps174 AG ?_;rintro w0 O0 ⟨l,n,u⟩ b ⟨⟨h,-⟩,-⟩ -;simp only[AP]at h;simp only[nS,AM];repeat'(first|exact trivial|refine eS rfl ?_|refine rX b ?_ ?_)
 refine AK (ι:={k:Nat//k<=l.length/\HC n (l.take k) (l.drop k)=Ij l n}) (λk=>⟨[(0,.p DN l),(1,.p T3 n),(5,.p (.int .i64) (k.1:Int))],[]⟩) (λk=>l.length-k.1) ⟨0,by simp[Ij]⟩ (AC [] rfl rfl ?_ ?_) (λk=>?_)
 ·exact eN
 ·exact eN
 ·obtain⟨k,hk,c⟩:=k;repeat'(first|exact trivial|refine eS rfl ?_|refine rX b ?_ ?_|refine rC ?_ ?_<;>intro a<;>try(cases a;done))
  ·exact eV
  ·have hk:k<l.length:=by exact eV
   have h1:Ij l n=2:=by
    rw[<-c,O8 n l hk,BY (by rw[<-or_assoc];exact a)]
   exact fI b [.tmp 4] (by rw[h1];exact eR)
  ·have hk:k<l.length:=by exact eV
   have hn:¬((l.getD k (0,0)).1<0\/(l.getD k (0,0)).2<0\/n<=(l.getD k (0,0)).2):=by
    have:=a;generalize l.getD k (0,0)=x at this;exact eV
   rw[O8 n l hk,An hn]at c;refine AK (ι:={j:Nat//j<=k/\((l.take j).any λy=>y.1==(l.getD k (0,0)).1)=false}) (λj=>⟨[(0,.p DN l),(1,.p T3 n),(5,.p (.int .i64) (k:Int)),(6,.p (.int .i64) (j.1:Int))],[]⟩) (λj=>k-j.1) ⟨0,by simp⟩ (AC [] rfl rfl ?_ ?_) (λj=>?_)
   ·exact eN
   ·exact eN
   ·obtain⟨j,i,f⟩:=j;repeat'(first|exact trivial|refine eS rfl ?_|refine AB ?_|refine rX b ?_ ?_|refine rC ?_ ?_<;>intro a<;>try(cases a;done))
    ·exact eV
    ·have e:j<l.length:=by exact eV
     have h1:Ij l n=4:=by
      have d:((l.take k).any λy=>y.1==(l.getD k (0,0)).1)=true:=by
       rw[Sc];refine⟨l.getD j (0,0),?_,by simpa using a⟩;rw[AS,As e];exact ADQ.2 ⟨j,by exact eV,rfl⟩
      rw[<-c,BY d]
     exact fI b [.tmp 4] (by rw[h1];exact eR)
    ·exact eV
    ·have e:j<l.length:=by exact eV
     refine⟨⟨j+1,by exact eV,?_⟩,by simp only;exact eV,AC [] rfl rfl ?_ ?_⟩
     ·have d:=YF l (l.getD k (0,0)).1 e;refine d.trans ?_;rw[f];simpa using a
     ·exact eN
     ·exact eN
    ·exact eV
    ·have g:j=k:=by exact eV
     subst g;refine⟨⟨j+1,by exact eV,?_⟩,by simp only;exact eV,AC [] rfl rfl ?_ ?_⟩
     ·rw[<-c,An (by rw[f];simp)]
     ·exact eN
     ·exact eN
  ·have h1:Ij l n=0:=by
    have hk:l.length<=k:=by exact eV
    rw[<-c,By hk];rfl
   exact fI b [.tmp 4] (by rw[h1];exact eR)
def WN (n:Int×List (Int×Int)):List Int:=n.1 :: (n.2.length:Int) :: n.2.flatMap λa=>[a.1,a.2]
def Bw (f:List (Int×List (Int×Int))):List Int:=(f.length:Int) :: f.flatMap WN
def YG (l:List (Int×List (Int×Int))) (k:Nat):List Int:=(l.length:Int) :: (l.take k).flatMap WN
def WO (l:List (Int×List (Int×Int))) (k j:Nat):List Int:=YG l k++[(l.getD k (0,[])).1,((l.getD k (0,[])).2.length:Int)]++((l.getD k (0,[])).2.take j).flatMap λa=>[a.1,a.2]
theorem R1:∀l:List (Int×Int),(l.flatMap λa=>[a.1,a.2]).length=2*l.length
 | []=>rfl
 | x :: l=>by simp[R1 l];omega
theorem A3R (n:Int×List (Int×Int)):(WN n).length=2+2*n.2.length:=by
 have:=R1 n.2;simp only[WN,OS];omega
theorem WP:∀l:List (Int×List (Int×Int)),(∀n∈l,n.2.length<=100000)->(l.flatMap WN).length<=l.length*200002
 | [],_=>by simp
 | x :: l,h=>by
  have h1:=h x (by simp);have a:=WP l (λn hn=>h n (by simp[hn]));have b:=A3R x;simp only[AE6,GO,OS];omega
theorem nT {l:List (Int×List (Int×Int))} (h:∀n∈l,n.2.length<=100000) {k:Nat} (hk:k<=l.length):(YG l k).length<=1+k*200002:=by
 have h1:=WP (l.take k) (λn hn=>h n (dO hn));rw[OR,ADH hk]at h1;simp only[YG,OS];omega
theorem A3S {l:List (Int×List (Int×Int))} (h:∀n∈l,n.2.length<=100000) {k j:Nat} (hk:k<l.length) (b:j<=(l.getD k (0,[])).2.length):(WO l k j).length<=3+k*200002+2*j:=by
 have h1:=nT h (AEC hk);have a:=R1 ((l.getD k (0,[])).2.take j);rw[OR,ADH b]at a;simp only[WO,GO,OS,AD7];omega
theorem ZJ {l:List (Int×List (Int×Int))} {k:Nat} (hk:k<l.length):YG l (k+1)=WO l k (l.getD k (0,[])).2.length:=by
 unfold YG WO;rw[A0 l (0,[]) hk,List.flatMap_append,Sf];simp[WN,YG]
theorem ZK {l:List (Int×List (Int×Int))} {k j:Nat} (a:j<(l.getD k (0,[])).2.length):WO l k (j+1)=WO l k j++[((l.getD k (0,[])).2.getD j (0,0)).1,((l.getD k (0,[])).2.getD j (0,0)).2]:=by
 unfold WO;rw[A0 _ (0,0) a,List.flatMap_append];simp
def WQ:Ac:={ ins:=[Dw],pre:=λ(f,_)=>f.length<=100000/\∀n∈f,n.2.length<=100000,out:=λ(f,_)=>[.p F3 (Bw f)] }
theorem sJ:Ad Tryz.prog 130 WQ:=by
 refine fK [0,1,2,3,4,5,6,15,38] Tryz.func130 Tryz.ntmps130 AG ?_;rintro w0 O0 ⟨l,u⟩ a ⟨h,-⟩ ⟨n,d⟩;simp only[WQ,AM];repeat'(first|exact trivial|refine eS rfl ?_|refine rX a ?_ ?_)
 refine AK (ι:={k:Nat//k<=l.length}) (λk=>⟨[(0,.p Dw l),(1,.bp 1 [] 0),(3,.sr 10 T3 0 (YG l k.1).length),(4,.p (.int .i64) (k.1:Int))],[(1,.box 25 true [.p Fe l]),(10,.arr 3 T3 (YG l k.1))]⟩) (λk=>l.length-k.1) ⟨0,by simp⟩ (AC [(1,.nm 1),(10,.nm 10)] rfl rfl ?_ ?_) (λk=>?_)
 ·refine eM ?_;rfl
 ·refine eM ?_;rfl
 ·obtain⟨k,hk⟩:=k;have i:=nT d hk;repeat'(first|exact trivial|refine eS rfl ?_|refine rX a ?_ ?_|refine rC ?_ ?_<;>intro c<;>try(cases c;done))
  ·exact eV
  ·refine⟨by exact eV,?_⟩;simp only[AP];exact eV
  ·have b:k<l.length:=by exact eV
   have o:=d _ (AE l (0,[]) b);refine AK (ι:={j:Nat//j<=(l.getD k (0,[])).2.length}) (λj=>⟨[(0,.p Dw l),(1,.bp 1 [] 0),(3,.sr 10 T3 0 (WO l k j.1).length),(4,.p (.int .i64) (k:Int)),(5,.p DN (l.getD k (0,[])).2),(6,.p (.int .i64) (j.1:Int))],[(1,.box 25 true [.p Fe l]),(10,.arr 3 T3 (WO l k j.1))]⟩) (λj=>(l.getD k (0,[])).2.length-j.1) ⟨0,by simp⟩ (AC [(1,.nm 1),(10,.nm 10)] rfl rfl ?_ ?_) (λj=>?_)
   ·refine eM ?_;simp[WO]
   ·refine eM ?_;simp[WO]
   ·obtain⟨j,f⟩:=j;have m:=A3S d b f;repeat'(first|exact trivial|refine eS rfl ?_|refine AB ?_|refine rX a ?_ ?_|refine rC ?_ ?_<;>intro c<;>try(cases c;done))
    ·refine⟨by exact eV,by exact eV,?_⟩;simp only[AP];exact eV
    ·exact eV
    ·have e:j<(l.getD k (0,[])).2.length:=by exact eV
     refine⟨⟨j+1,by exact eV⟩,by simp only;exact eV,AC [(1,.nm 1),(10,.nm 10)] rfl rfl ?_ ?_⟩
     ·refine eM ?_;exact(ZK e).symm
     ·refine eM ?_;have:=AD0 List.length (ZK (l:=l) e);rw[GO]at this;exact this.symm
    ·exact eV
    ·have g:j=(l.getD k (0,[])).2.length:=by exact eV
     subst g;refine⟨⟨k+1,by exact eV⟩,by simp only;exact eV,AC [(1,.nm 1),(10,.nm 10)] rfl rfl ?_ ?_⟩
     ·refine eM ?_;exact(ZJ b).symm
     ·refine eM ?_;exact AD0 List.length (ZJ b).symm
  ·have hk:l.take k=l:=At (by exact eV);have h1:YG l k=Bw l:=by unfold YG Bw;rw[hk]
   exact fI a [.tmp 2] (by first|exact eR|refine Xy ?_;exact h1)
end Go.Proofs.YtapkhdkbkodbjaaGreat.Fw
