/- Contracts of the program's and the reference's functions, and the plain laws of what they compute: C1 C2 C9 C10 C11 C12 C13 C3 C4 C5 C6 C7 C8 C14 C15 C16 C17 C18 C19 C20 C21 C22 C23 N1 N2 C24 C25 N3 C26 C27 C28 C29 N4 N5 C30 C31 C32 C33 C34 C35 D1 D4 N6 R07a R07b R07c R07d R07e Sorted R07f R07g R07h R15c P8 G1 G3. -/
import Derived.Test.YtapkhdkbkodbjaaGreatBZJ
set_option linter.unusedVariables false
set_option linter.unusedSimpArgs false
namespace Go.Proofs.YtapkhdkbkodbjaaGreat.Fw
open Go
attribute [local irreducible] Ev
attribute [local go_sem] gZ AM List.toList_toArray Bn evG evK Y3 Ee KQ Gf Fi Hj SY Ni C0 DH Mn CV Cv frz mV Ga DG A2 FY BX AV.frz AV.frzs AV.drp AV.drps AV.names AV.namess aq Gc LB KG TT JA BZ Bd JY EI Ib EJ Id Ic Ie Vk Pa Gu KI Fb EB Vl RI qUn JZ Ig LU FB Db JD KJ EK TV DL EL Ey RJ Ih Ng FL Nf Pb RK LV JE KK EM Dc HA De Hi DM Ez DN EO Fd CV Ce PY RH OC GW JC JB KH Pe SW Nh La LY KN SX LZ KO b7 Pg Pf AV.trn AV.trns Er Cz Obj.trn Jl iO Dd ER EC EP CY E0 Ar lk HG Gb Hf bin mU Y7 mX SU zf1 zfs pfs AV.cells CA JW PZ KM Pd CS Nc Ty.cell1 Ia Es Da F5 Mm Eq KF LT RE FK Gt NU TR Vj LS KD b5 f8 ST Hd Cf G9 RV.flat Ty.flat Ty.size St.add upd del Ba Value.oneCell' LP Ty.dflt IZ Py Ht QH List.take_succ_cons List.take_zero List.length_cons iD iE QG Ji Lp HX Jj A2s Fj Mx My Mz M0 RW RY M2 Io WC Option.map_some Option.map_none Option.bind_some Option.getD_some Option.getD_none Option.isNone_none Option.isNone_some Bool.and_true Bool.true_and Bool.and_false Bool.false_and Bool.not_true Bool.not_false if_true if_false List.length_cons List.length_nil and_true true_and and_self List.all_cons List.all_nil List.append_nil List.nil_append List.cons_append List.getElem?_cons_zero List.getElem?_cons_succ List.getElem?_nil List.map_cons List.map_nil List.set_cons_zero List.set_cons_succ List.isEmpty_nil List.isEmpty_cons decide_true decide_false beq_self_eq_true bne_self_eq_false Nat.zero_add Nat.add_zero Nat.sub_zero Int.toNat_natCast Int.toNat_zero Int.toNat_one List.take_length List.length_append List.length_singleton true_or or_true or_self false_or or_false Ty.agg.injEq Ty.slice.injEq Ty.prod.injEq Ty.int.injEq Option.some.injEq beq_iff_eq Ln evMG evMQ opM Hv Ll B0 Jh Gv P6 Jf Hu Ip KZ LG OP Nn OQ TY Lm QB QC Jg Aa Am Op.operands Call.operands List.filterMap_cons List.filterMap_nil List.append_eq Bool.cond_false_right Bool.cond_true_left cond_true cond_false implies_true decide_eq_true_eq beq_true beq_false Bool.or_true Bool.or_false Bool.true_or Bool.false_or Option.isSome_some Array.empty_append List.append_toArray FZ Mo E1 Hg b6 Pc Fc GD GC Ii Hh KL LX Y8 mW He inB KP Fe GX Ja Aq iG List.drop_zero DT Hw cZ CK Ke CH AV.fgt AV.fgts Obj.fgt Av Aj Aa DB IY BL Gg List.any_cons List.any_nil nX iH c5 iI Ls Rd qs List.flatMap_cons List.flatMap_nil List.cons_append tn c8 HB List.take_succ_cons List.drop_succ_cons dC GJ A7 sE M7 B4 CJ Ae E4 KY Bg E3 Dg Hr Im GH Hs
attribute [local go_sem] ty1 ty2 ty3 ty4 ty5 ty9 A5Y A5Z A60 A61 A62 A63 A64 A65 A66 A67 A68 A69 A6a A6b A6c A6d A6e A6f A6g A6h A6i A6j A6k A6l A6m A6n A6o A6p A6q A6r A6s A6t A6u A6v A6w A6x A6y A6z A6A A6B A6C A6D A6E A6F A6G A6H A6I A6J A6K A6L A6M A6N A6O A6P A6Q A6R A6S A6T A6U A6V A6W A6X A6Y A6Z A70 A71 A72 A73 A74 A75 A76 sM sO sP sQ sR sS sT sU sV sW sY sZ s5 s6 s7 s8 s9 tA tB tC tD tE tF tG tH tI tJ tK tL tM tP tQ tR tS tT tU tV tW tY tZ t4 t5 t6 t7 t8 t9 uA uB uC uD uE uF uG uH uI uJ uK uL uM uN uP uQ uR uS uT uU uV uW uX uY uZ u3 u4 u5 u6 u7 u9 vA vB vC vE vF vG vH vI vJ vL vM vO vP vQ vS vU vV vW vX vY vZ v4 v5 v6 v7 v8 v9 wA wB wC wD wF wG wH wI wJ wK wL wM wN wP wQ wR wS wT wU wV wW wX wY wZ w5 w6 w9 xA xB xC xE xF xG xH xI xJ xL xM xN xO xP xQ xR xS xT xV xW xX xY xZ x5 x6 x7 x8 x9 yA yB yC yD yE yF yG
set_option maxRecDepth 100000
set_option maxHeartbeats 4000000
section
def JL (a b c:Int):Bool:=decide (a<=c)&&decide (c<=b)
def oC:AZ:={ ins:=[.int .u8],pre:=λ_=>True,out:=λ(c,_)=>[.p .bool (JL 48 57 c)] }
attribute [local go_sem] oC
def oD:AZ:={ ins:=[.int .u8],pre:=λ_=>True,out:=λ(c,_)=>[.p .bool (JL 65 90 c)] }
attribute [local go_sem] oD
def oE:AZ:={ ins:=[.int .u8],pre:=λ_=>True,out:=λ(c,_)=>[.p .bool (JL 97 122 c)] }
attribute [local go_sem] oE
theorem i3:Ab Tryz.prog 242 oC:=by
 refine fK [0,2] Tryz.func242 Tryz.ntmps242 AH ?_;rintro w0 O0 ⟨c,u⟩ a - -;simp only[oC,AM];repeat'(first|exact trivial|apply eS rfl|refine rX a ?_ ?_)
 exact fI a [.tmp 2] (by unfold JL;exact eR)
theorem A35:Ab Tryz.prog 249 oD:=by
 refine fK [0,2] Tryz.func249 Tryz.ntmps249 AH ?_;rintro w0 O0 ⟨c,u⟩ a - -;simp only[oD,AM];repeat'(first|exact trivial|apply eS rfl|refine rX a ?_ ?_)
 exact fI a [.tmp 2] (by unfold JL;exact eR)
theorem A36:Ab Tryz.prog 250 oE:=by
 refine fK [0,2] Tryz.func250 Tryz.ntmps250 AH ?_;rintro w0 O0 ⟨c,u⟩ a - -;simp only[oE,AM];repeat'(first|exact trivial|apply eS rfl|refine rX a ?_ ?_)
 exact fI a [.tmp 2] (by unfold JL;exact eR)
def Wi (c:Int) (big:Bool):Bool:=JL 48 57 c||c==45||big&&JL 65 90 c||!big&&JL 97 122 c
def A37:AZ:={ ins:=[.int .u8,.bool],pre:=λ_=>True,out:=λ(c,b,_)=>[.p .bool (Wi c b)] }
attribute [local go_sem] A37
theorem A78:Ab Tryz.prog 243 A37:=by
 refine fK [0,1,4] Tryz.func243 Tryz.ntmps243 (AE i3 (AE A35 (AE A36 AH))) ?_;rintro w0 O0 ⟨c,b,u⟩ a - -;simp only[A37,AM];repeat'(first|exact trivial|apply eS rfl|refine rX a ?_ ?_)
 exact fI a [.tmp 4] (by unfold Wi;exact eR)
abbrev chr (s:ByteArray) (i:Nat):Int:=((s.data.getD i 0).toNat:Int)
def Rj (s:ByteArray):Bool:=decide ((s.size:Int)<1)||decide (32<(s.size:Int))||JL 48 57 (chr s 0)||chr s 0==45
def Eu (s:ByteArray) (big:Bool):Bool:=!Rj s&&(List.range s.size).all λi=>Wi (chr s i) big
def oG:AZ:={ ins:=[T9,.bool],pre:=λ_=>True,out:=λ(s,b,_)=>[.p .bool (Eu s b)] }
attribute [local go_sem] oG
theorem i4:Ab Tryz.prog 231 oG:=by
 refine fK [0,1,4,5,23,27,35] Tryz.func231 Tryz.ntmps231 (AE i3 (AE A78 AH)) ?_;rintro w0 O0 ⟨s,b,u⟩ d - -;simp only[oG,AM];repeat'(first|exact trivial|apply eS rfl|refine rX d ?_ ?_|refine rC ?_ ?_<;>intro a<;>try(cases a;done))
 .constructor
  .intro h;simp only[TO,UX,Of]at h;have:1<=(s.size:Int):=by omega
   exact this
  intro h;simp only[TO,UX,Of]at h;have:1<=(s.size:Int):=by omega
  exact this
 .have h1:Rj s=true:=by
   unfold Rj chr;simp only[UI,DO,UP];exact a
  have c:Eu s b=false:=by unfold Eu;rw[h1];rfl
  exact fI d [.tmp 4] (by rw[c];exact eR)
 have h1:Rj s=false:=by
  unfold Rj chr;simp only[UX,Of,Uw];exact⟨⟨⟨by omega,by omega⟩,a.1.2⟩,a.2⟩
 have g:s.size<=32:=by omega
 refine AJ (ι:={k:Nat//k<=s.size/\((List.range k).all λi=>Wi (chr s i) b)=true}) (λk=>⟨[(0,.p T9 s),(1,.p .bool b),(5,.p (.int .i64) (k.1:Int))],[]⟩) (λk=>s.size-k.1) ⟨0,by simp⟩ (eW []) (λk=>?_)
 obtain⟨k,hk,f⟩:=k;repeat'(first|exact trivial|apply eS rfl|apply AB|refine rX d ?_ ?_|refine rC ?_ ?_<;>intro a<;>try(cases a;done))
 .exact a
 .have e:k<s.size:=by omega
  have c:Eu s b=false:=by
   unfold Eu;rw[Um];refine .inr (Ym.2 λh=>?_);have:=ON.1 h k (Tx.2 e);rw[show Wi (chr s k) b=false from a]at this;cases this
  exact fI d [.tmp 4] (by rw[c];exact eR)
 .omega
 .have e:k<s.size:=by omega
  refine⟨⟨k+1,by omega,?_⟩,by simp only;omega,AC [] rfl rfl ?_ ?_⟩
  .rw[UQ,AD7,f];rw[AEh,Yp,List.all_nil,Bool.and_true];exact a
  .exact eN
  exact eN
 have e:k=s.size:=by omega
 subst e;have c:Eu s b=true:=by unfold Eu;rw[h1,f];rfl
 exact fI d [.tmp 4] (by rw[c];exact eR)
def A38:AZ:={ ins:=[T9],pre:=λ_=>True,out:=λ(s,_)=>[.p .bool (Eu s false)] }
def Wj:AZ:={ ins:=[T9],pre:=λ_=>True,out:=λ(s,_)=>[.p .bool (Eu s true)] }
theorem A79:Ab Tryz.prog 218 A38:=by
 refine fK [0,2] Tryz.func218 Tryz.ntmps218 (AE i4 AH) ?_;rintro w0 O0 ⟨s,u⟩ a - -;simp only[A38,AM];repeat'(first|exact trivial|apply eS rfl|refine rX a ?_ ?_)
 exact fI a [.tmp 2]
theorem oH:Ab Tryz.prog 217 Wj:=by
 refine fK [0,2] Tryz.func217 Tryz.ntmps217 (AE i4 AH) ?_;rintro w0 O0 ⟨s,u⟩ a - -;simp only[Wj,AM];repeat'(first|exact trivial|apply eS rfl|refine rX a ?_ ?_)
 exact fI a [.tmp 2]
end
section
theorem M8 {α:Type} (l:List α) (d:α) (p:α->Bool) {k:Nat} (h:k<l.length):(l.take (k+1)).any p=((l.take k).any p||p (l.getD k d)):=by
 rw[Ax l d h,AD5];simp
theorem Iu {α:Type} (l:List α) (d:α) (p:α->Bool) {k:Nat} (h:k<l.length) (hp:p (l.getD k d)=true):l.any p=true :=
 UA.2 ⟨_,AF l d h,hp⟩
def Ag (l:List ByteArray) (s:ByteArray):Bool:=l.any λx=>Ah x s
def JM:AZ:={ ins:=[F4,T9],pre:=λ_=>True,out:=λ(l,n,_)=>[.p .bool (Ag l n)],lend:=true }
attribute [local go_sem] JM
theorem Gj:Ab Tryz.prog 201 JM:=by
 refine fK [0,1,4,5,9,17] Tryz.func201 Tryz.ntmps201 AH ?_;rintro w0 O0 ⟨l,n,u⟩ a ⟨⟨e,-⟩,-⟩ -;simp only[AO]at e;simp only[JM,AM];repeat'(first|exact trivial|apply eS rfl|refine rX a ?_ ?_)
 refine AJ (ι:={k:Nat//k<=l.length/\(l.take k).any (λx=>Ah x n)=false}) (λk=>⟨[(0,.p F4 l),(1,.p T9 n),(5,.p (.int .i64) (k.1:Int))],[]⟩) (λk=>l.length-k.1) ⟨0,by simp⟩ (eW []) (λk=>?_)
 obtain⟨k,hk,c⟩:=k;repeat'(first|exact trivial|apply eS rfl|apply AB|refine rX a ?_ ?_|refine rC ?_ ?_<;>intro b<;>try(cases b;done))
 .exact eV
 .have d:k<l.length:=by exact eV
  have h1:Ag l n=true:=Iu l ByteArray.empty _ d b;exact fI a [.tmp 4] (by rw[h1];exact eR)
 .exact eV
 .have d:k<l.length:=by exact eV
  refine⟨⟨k+1,by exact eV,?_⟩,by simp only;exact eV,AC [] rfl rfl ?_ ?_⟩
  .rw[M8 l ByteArray.empty _ d,c];exact b
  .exact eN
  exact eN
 have hk:l.take k=l:=At (by exact eV);rw[hk]at c;have h1:Ag l n=false:=c;exact fI a [.tmp 4] (by rw[h1];exact eR)
def atF (l:List ByteArray) (s:ByteArray):Nat:=(l.takeWhile λx=>G8 x s).length
theorem A3a {α:Type} (p:α->Bool) (d:α):∀(l:List α) (k:Nat),k<=(l.takeWhile p).length->((k<l.length/\p (l.getD k d)=true)↔k+1<=(l.takeWhile p).length)
 | [],k,h=>by simp
 | x :: l,k,h=>by
  by_cases a:p x=true
  .rw[List.takeWhile_cons,BY a]at h ⊢;cases k with
   | zero=>simp[a]
   | succ k =>
    have:=A3a p d l k (by simpa using h);simpa using this
  rw[List.takeWhile_cons,As a]at h ⊢;have hk:k=0:=by simpa using h
  subst hk;simp[a]
theorem A8D {α:Type} (p:α->Bool) (l:List α):(l.takeWhile p).length<=l.length:=(List.takeWhile_sublist p).length_le
def D9 (l:List ByteArray) (s:ByteArray):List ByteArray :=
 if (decide (atF l s<l.length)&&Ah (l.getD (atF l s) ByteArray.empty) s)=true then l else l.take (atF l s)++[s]++l.drop (atF l s)
def dH:AZ:={ ins:=[F4,T9],pre:=λ(l,_,_)=>List.length l<=100000,out:=λ(l,n,_)=>[.p F4 (D9 l n)] }
attribute [local go_sem] dH
theorem Rk:Ab Tryz.prog 194 dH:=by
 refine fK [0,1,4,5,6,18,32] Tryz.func194 Tryz.ntmps194 AH ?_;rintro w0 O0 ⟨l,n,u⟩ c-m;have m:l.length<=100000:=m;simp only[dH,AM];repeat'(first|exact trivial|apply eS rfl|refine rX c ?_ ?_)
 refine AJ (ι:={k:Nat//k<=atF l n}) (λk=>⟨[(0,.p F4 l),(1,.p T9 n),(5,.raw (.slice none 0 0)),(6,.p (.int .i64) (k.1:Int))],[]⟩) (λk=>l.length-k.1) ⟨0,by simp⟩ (eW []) (λk=>?_)
 obtain⟨k,hk⟩:=k;have d:=A8D (λx=>G8 x n) l;have i:=A3a (λx=>G8 x n) ByteArray.empty l k hk;simp only;repeat'(first|exact trivial|apply eS rfl|apply AB|refine rX c ?_ ?_|refine rC ?_ ?_<;>intro a<;>try(cases a;done))
 .exact λh=>h
 .have h1:k<l.length/\G8 (l.getD k ByteArray.empty) n=true:=⟨by exact eV,a.2⟩;exact eV
 .have h1:k<l.length/\G8 (l.getD k ByteArray.empty) n=true:=⟨by exact eV,a.2⟩;exact⟨⟨k+1,i.1 h1⟩,by simp only;omega,eW []⟩
 .exact λh=>h
 .rename_i f;have g:k=atF l n:=by
   refine Yg hk (Nat.le_of_not_lt λh=>?_);have:=i.2 h;rw[f (Do.2 this.1)]at this;cases this.2
  have e:D9 l n=l:=by
   unfold D9;rw[<-g,BY];rw[An,DO];exact⟨Do.1 a.1,a.2⟩
  exact fI c [.tmp 4] (by rw[e];exact eR)
 .have j:=Ub k l;have b:k<=l.length:=Tp hk d;simp only[AO];exact⟨Tn.2 b,by dsimp only[Ty.den]at *;omega⟩
 .have j:=Ub k l;have b:k<=l.length:=Tp hk d;simp only[AO];dsimp only[Ty.den]at *;omega
 .have j:=Ub k l;have b:k<=l.length:=Tp hk d;have q:(l.drop k).length<=l.length:=by rw[UL];omega
  simp only[AO];exact⟨Tn.2 b,by dsimp only[Ty.den]at *;omega⟩
 rename_i f;have g:k=atF l n:=by
  refine Yg hk (Nat.le_of_not_lt λh=>?_);have:=i.2 h;rw[f (Do.2 this.1)]at this;cases this.2
 have e:D9 l n=l.take k++[n]++l.drop k:=by
  unfold D9;rw[<-g,As];rw[An,DO];intro h;rw[a (Do.2 h.1)]at h;cases h.2
 have b:k<=l.length:=Tp hk d;have o:(l.take k).length+1+(l.drop k).length=(l.take k++[n]++l.drop k).length:=by simp only[A0,GO]
 rw[o,<-e];refine E6 [38] ?_;exact fI c [.tmp 4]
end
section
def F7 (b:List Int) (i:Int):Int:=if i<b.length then b.getD i.toNat 0 else 0
def i5:AZ:={ ins:=[BM,T3],pre:=λ(_,i,_)=>(0:Int)<=i,out:=λ(b,i,_)=>[.p QM (F7 b i)],lend:=true }
attribute [local go_sem] i5
theorem yJ:Ab Tryz.prog 154 i5:=by
 refine fK [0,1,4,8] Tryz.func154 Tryz.ntmps154 AH ?_;rintro w0 O0 ⟨b,i,u⟩ c-hi;simp only[i5,AM];repeat'(first|exact trivial|apply eS rfl|refine rX c ?_ ?_|refine rC ?_ ?_<;>intro a<;>try(cases a;done))
 .exact⟨hi,a⟩
 .have h1:F7 b i=b.getD i.toNat 0:=by unfold F7;rw[BY a]
  exact fI c [.tmp 4] (by rw[h1];exact eR)
 have h1:F7 b i=0:=by unfold F7;rw[As (Yd.2 a)]
 exact fI c [.tmp 4] (by rw[h1];exact eR)
def Cj (b:List Int):Nat->Nat
 | 0=>0
 | n+1=>if b.getD n 0=0 then Cj b n else n+1
def BO (b:List Int):List Int:=b.take (Cj b b.length)
theorem Wk (b:List Int):∀n,Cj b n<=n
 | 0=>Is _
 | n+1=>by
  unfold Cj;split
  .exact Nat.le_succ_of_le (Wk b n)
  exact Is _
def Ki:AZ:={ ins:=[BM],pre:=λ(b,_)=>List.length b<=100000,out:=λ(b,_)=>[.p BM (BO b)] }
attribute [local go_sem] Ki
theorem M9:Ab Tryz.prog 155 Ki:=by
 refine fK [0,2,3,15] Tryz.func155 Tryz.ntmps155 AH ?_;rintro w0 O0 ⟨b,u⟩ d-f;have f:b.length<=100000:=f;simp only[Ki,AM];repeat'(first|exact trivial|apply eS rfl|refine rX d ?_ ?_)
 refine AJ (ι:={n:Nat//n<=b.length/\Cj b n=Cj b b.length}) (λn=>⟨[(0,.p BM b),(3,.p (.int .i64) (n.1:Int))],[]⟩) (λn=>n.1) ⟨b.length,Is _,rfl⟩ (eW []) (λn=>?_)
 obtain⟨n,hn,g⟩:=n;simp only;repeat'(first|apply eS rfl|apply AB|refine rX d ?_ ?_|refine rC ?_ ?_<;>intro c<;>try(cases c;done))
 .constructor
  .exact eV
  intro h;refine⟨?_,?_⟩<;>exact eV
 .exact eV
 .obtain⟨h1,a⟩:=c;obtain⟨m,rfl⟩:∃m,n=m+1:=⟨n-1,by omega⟩;have e:(((m+1:Nat):Int)-1)=(m:Int):=by omega
  rw[e]at a;have a:b.getD m 0=0:=a;have j:Cj b m=Cj b b.length:=by
   rw[<-g];show _=if b.getD m 0=0 then Cj b m else m+1
   rw[BY a]
  refine⟨⟨m,by omega,j⟩,by simp,AC [] rfl rfl ?_ ?_⟩
  .exact eN
  simp only[e];exact eN
 .have k:=Ub n b;simp only[AO];exact⟨Tn.2 hn,by dsimp only[Ty.den]at *;omega⟩
 have i:Cj b n=n:=by
  cases n with
  | zero=>rfl
  | succ m =>
   have e:(((m+1:Nat):Int)-1)=(m:Int):=by omega
   rw[e]at c;have a:=c (by omega);have a:¬b.getD m 0=0:=a;show (if b.getD m 0=0 then Cj b m else m+1)=m+1;rw[As a]
 have h1:BO b=b.take n:=by unfold BO;rw[<-g,i]
 rw[<-h1];refine E6 [18] ?_;exact fI d [.tmp 2]
end
section
attribute [local go_sem] i5 Ki
def A3b (w:Int) (r:Int):Bool:=B2 .and .u64 (Y6 .u64 w r) 1==1
def Wl (b:List Int) (i:Int):Bool:=if (decide (i<0)||decide ((b.length:Int)<=i.tdiv 64))=true then false else A3b (b.getD (i.tdiv 64).toNat 0) (i.tmod 64)
def A3c:AZ:={ ins:=[BM,T3],pre:=λ_=>True,out:=λ(b,i,_)=>[.p .bool (Wl b i)],lend:=true }
theorem A9q {w:Int} (h0:0<=w) (r:Int):0<=Y6 .u64 w r/\Y6 .u64 w r<=w:=by
 unfold Y6;have hp:(0:Int)<2 ^ (min r.toNat IntKind.u64.bits):=Int.pow_pos (by decide);rw[Int.fdiv_eq_ediv_of_nonneg _ (Int.le_of_lt hp)];exact⟨Int.ediv_nonneg h0 (Int.le_of_lt hp),Int.ediv_le_self _ h0⟩
theorem A3d:Ab Tryz.prog 205 A3c:=by
 refine fK [0,1,4,13] Tryz.func205 Tryz.ntmps205 AH ?_;rintro w0 O0 ⟨b,i,u⟩ d ⟨⟨m,k⟩,e,-⟩ -;have e:KC .i64 i:=e;rw[M2]at e;have j:0<=i->Int.tdiv i 64=i / 64/\Int.tmod i 64=i % 64:=λh=>⟨Uc h,aS h⟩;simp only[A3c,AM];repeat'(first|exact trivial|apply eS rfl|refine rX d ?_ ?_|refine rC ?_ ?_<;>intro c<;>try(cases c;done))
 .intro h;have h0:0<=i:=by simpa using h
  obtain⟨a,g⟩:=j h0;rw[a];refine⟨by decide,?_,?_⟩<;>exact eV
 .have h1:Wl b i=false:=by
   unfold Wl;rw[BY];rw[UI,DO,DO];exact c
  exact fI d [.tmp 4] (by rw[h1];exact eR)
 .obtain⟨h0,l⟩:=c;obtain⟨a,g⟩:=j h0;rw[a]at l;have f:KC .u64 (b.getD (i / 64).toNat 0):=k _ (AF b 0 (by exact eV));rw[Io]at f;have hs:=A9q f.1 (i % 64);rw[a,g];refine⟨⟨by decide,by exact eV,by exact eV⟩,⟨by exact eV,by exact eV⟩,⟨by decide,by exact eV,by exact eV⟩,⟨by exact eV,by exact eV⟩,by exact eV,hs.1,Ye hs.2 f.2⟩
 have h1:Wl b i=A3b (b.getD (i.tdiv 64).toNat 0) (i.tmod 64):=by
  unfold Wl;rw[As];rw[UI,DO,DO];rintro (h|h)<;>omega
 exact fI d [.tmp 4] (by rw[h1];unfold A3b;exact eR)
end
section
attribute [local go_sem] i5 Ki
def GL (op:BinOp) (a b:List Int) (n:Nat):List Int:=(List.range n).map λi=>B2 op .u64 (a.getD i 0) (F7 b (i:Int))
theorem EV (op:BinOp) (a b:List Int) (n:Nat):(GL op a b n).length=n:=by simp[GL]
theorem Zs (op:BinOp) (a b:List Int) (n:Nat):GL op a b (n+1)=GL op a b n++[B2 op .u64 (a.getD n 0) (F7 b (n:Int))]:=by simp[GL,UQ]
def GM (a b:List Int):List Int:=BO (GL .and a b a.length)
def A3e:AZ:={ ins:=[BM,BM],pre:=λ(a,_,_)=>List.length a<=100000,out:=λ(a,b,_)=>[.p BM (GM a b)] }
theorem A3f:Ab Tryz.prog 116 A3e:=by
 refine fK [0,1,4,5,6,10] Tryz.func116 Tryz.ntmps116 (AE yJ (AE M9 AH)) ?_;rintro w0 O0 ⟨a,b,u⟩ c-ha;have ha:a.length<=100000:=ha;simp only[A3e,AM];repeat'(first|exact trivial|apply eS rfl|refine rX c ?_ ?_)
 refine AJ (ι:={n:Nat//n<=a.length}) (λn=>⟨[(0,.p BM a),(1,.p BM b),(5,.sr 23 QM 0 n.1),(6,.p (.int .i64) (n.1:Int))],[(23,.arr 186 QM (GL .and a b n.1))]⟩) (λn=>a.length-n.1) ⟨0,IS _⟩ (AC [(23,.nil)] rfl rfl ?_ ?_) (λn=>?_)
 .refine eM ?_;rfl
 .exact eN
 obtain⟨n,hn⟩:=n;have g:=EV .and a b n;have hs:=Zs .and a b n;simp only;repeat'(first|exact trivial|apply eS rfl|apply AB|refine rX c ?_ ?_|refine rC ?_ ?_<;>intro d<;>try(cases d;done))
 .refine⟨d,?_⟩;simp only[AO];dsimp only[Ty.den]at *;omega
 .exact eV
 .have e:n<a.length:=by exact eV
  refine⟨⟨n+1,by omega⟩,by simp only;omega,AC [(23,.nm 23)] rfl rfl ?_ ?_⟩
  .simp only[hs];refine eM ?_;rw[At (by rw[g];exact Is _)]
  exact eN
 have e:n=a.length:=by exact eV
 subst e;refine E6 [23] ?_;have f:(GL .and a b a.length).take a.length=GL .and a b a.length:=At (by rw[EV];exact Is _);repeat'(first|apply eS rfl|refine rX c ?_ ?_)
 .rw[f,EV];exact ha
 rw[f];exact fI c [.tmp 4] (by unfold GM;exact eR)
def Rl (a b:List Int):List Int:=BO (GL .andNot a b a.length)
def oI:AZ:={ ins:=[BM,BM],pre:=λ(a,_,_)=>List.length a<=100000,out:=λ(a,b,_)=>[.p BM (Rl a b)] }
attribute [local go_sem] oI
theorem A3g:Ab Tryz.prog 188 oI:=by
 refine fK [0,1,4,5,6,10] Tryz.func188 Tryz.ntmps188 (AE yJ (AE M9 AH)) ?_;rintro w0 O0 ⟨a,b,u⟩ c-ha;have ha:a.length<=100000:=ha;simp only[oI,AM];repeat'(first|exact trivial|apply eS rfl|refine rX c ?_ ?_)
 refine AJ (ι:={n:Nat//n<=a.length}) (λn=>⟨[(0,.p BM a),(1,.p BM b),(5,.sr 23 QM 0 n.1),(6,.p (.int .i64) (n.1:Int))],[(23,.arr 186 QM (GL .andNot a b n.1))]⟩) (λn=>a.length-n.1) ⟨0,IS _⟩ (AC [(23,.nil)] rfl rfl ?_ ?_) (λn=>?_)
 .refine eM ?_;rfl
 .exact eN
 obtain⟨n,hn⟩:=n;have g:=EV .andNot a b n;have hs:=Zs .andNot a b n;simp only;repeat'(first|exact trivial|apply eS rfl|apply AB|refine rX c ?_ ?_|refine rC ?_ ?_<;>intro d<;>try(cases d;done))
 .refine⟨d,?_⟩;simp only[AO];dsimp only[Ty.den]at *;omega
 .exact eV
 .have e:n<a.length:=by exact eV
  refine⟨⟨n+1,by omega⟩,by simp only;omega,AC [(23,.nm 23)] rfl rfl ?_ ?_⟩
  .simp only[hs];refine eM ?_;rw[At (by rw[g];exact Is _)]
  exact eN
 have e:n=a.length:=by exact eV
 subst e;refine E6 [23] ?_;have f:(GL .andNot a b a.length).take a.length=GL .andNot a b a.length:=At (by rw[EV];exact Is _);repeat'(first|apply eS rfl|refine rX c ?_ ?_)
 .rw[f,EV];exact ha
 rw[f];exact fI c [.tmp 4] (by unfold Rl;exact eR)
def Eh (a b:List Int):Bool:=((Rl a b).length:Int)==0
def QN:AZ:={ ins:=[BM,BM],pre:=λ(a,_,_)=>List.length a<=100000,out:=λ(a,b,_)=>[.p .bool (Eh a b)],lend:=true }
attribute [local go_sem] QN
theorem Rm:Ab Tryz.prog 147 QN:=by
 refine fK [0,1,4] Tryz.func147 Tryz.ntmps147 (AE A3g AH) ?_;rintro w0 O0 ⟨a,b,u⟩ c-ha;have ha:a.length<=100000:=ha;simp only[QN,AM];repeat'(first|exact trivial|apply eS rfl|refine rX c ?_ ?_)
 .exact ha
 exact fI c [.tmp 4] (by unfold Eh;exact eR)
def Fk (a b:List Int):Bool:=Eh a b&&Eh b a
def dI:AZ:={ ins:=[BM,BM],pre:=λ(a,b,_)=>List.length a<=100000/\List.length b<=100000,out:=λ(a,b,_)=>[.p .bool (Fk a b)],lend:=true }
theorem A0H:Ab Tryz.prog 204 dI:=by
 refine fK [0,1,4] Tryz.func204 Tryz.ntmps204 (AE Rm AH) ?_;rintro w0 O0 ⟨a,b,u⟩ c-⟨ha,d⟩;simp only[dI,AM];repeat'(first|exact trivial|apply eS rfl|refine rX c ?_ ?_)
 .exact⟨ha,λ_=>d⟩
 exact fI c [.tmp 4] (by unfold Fk;exact eR)
end
section
attribute [local go_sem] A3c
def Jp (a b:List Int):Bool:=decide (a=b)
def Wm:AZ:={ ins:=[BM,BM],pre:=λ_=>True,out:=λ(a,b,_)=>[.p .bool (Jp a b)],lend:=true }
theorem yK:Ab Tryz.prog 153 Wm:=by
 refine fK [0,1,4,5,10,14,25] Tryz.func153 Tryz.ntmps153 AH ?_;rintro w0 O0 ⟨a,b,u⟩ d ⟨⟨ha,-⟩,-⟩ -;simp only[AO]at ha;simp only[Wm,AM];repeat'(first|exact trivial|apply eS rfl|refine rX d ?_ ?_|refine rC ?_ ?_<;>intro c<;>try(cases c;done))
 .have h1:Jp a b=false:=by
   unfold Jp;rw[Of];rintro rfl;exact c rfl
  exact fI d [.tmp 4] (by rw[h1];exact eR)
 have f:a.length=b.length:=by
  have:(a.length:Int)=(b.length:Int):=by simpa using c
  exact Int.ofNat_inj.1 this
 refine AJ (ι:={k:Nat//k<=a.length/\a.take k=b.take k}) (λk=>⟨[(0,.p BM a),(1,.p BM b),(5,.p (.int .i64) (k.1:Int))],[]⟩) (λk=>a.length-k.1) ⟨0,IS _,rfl⟩ (eW []) (λk=>?_)
 obtain⟨k,hk,hf⟩:=k;simp only;repeat'(first|exact trivial|apply eS rfl|apply AB|refine rX d ?_ ?_|refine rC ?_ ?_<;>intro c<;>try(cases c;done))
 .exact⟨c,by rw[<-f];exact c⟩
 .have e:k<a.length:=by exact eV
  have h1:Jp a b=false:=by
   unfold Jp;rw[Of];rintro rfl;exact c rfl
  exact fI d [.tmp 4] (by rw[h1];exact eR)
 .exact eV
 .have e:k<a.length:=by exact eV
  have g:a.getD k 0=b.getD k 0:=by simpa using c
  refine⟨⟨k+1,by omega,?_⟩,by simp only;omega,AC [] rfl rfl ?_ ?_⟩
  .rw[Ax a 0 e,Ax b 0 (by omega),hf];rw[show a.getD k 0=b.getD k 0 from g]
  .exact eN
  exact eN
 have e:k=a.length:=by exact eV
 subst e;rw[Tl,f,Tl]at hf;have h1:Jp a b=true:=by unfold Jp;rw[hf];simp
 exact fI d [.tmp 4] (by rw[h1];exact eR)
end
section
attribute [local go_sem] A3c
def Nu (b:List Int) (n:Nat):List Int:=((List.range n).filter λ(i:Nat)=>Wl b (i:Int)).map λ(i:Nat)=>(i:Int)
def H5 (b:List Int):List Int:=Nu b (64*b.length)
theorem oJ (b:List Int) (n:Nat):Nu b (n+1)=Nu b n++if Wl b (n:Int)=true then [(n:Int)] else []:=by
 unfold Nu;rw[UQ,AA5,UH]
 congr 1
 rw[Ue,ADu];split<;>rfl
theorem A0I (b:List Int) (n:Nat):(Nu b n).length<=n:=by
 unfold Nu;rw[OF];exact Tp (Ul _ _) (by simp)
def A3h:AZ:={ ins:=[BM],pre:=λ(b,_)=>List.length b<=100000,out:=λ(b,_)=>[.p FA (H5 b)] }
attribute [local go_sem] A3h
theorem A7a:Ab Tryz.prog 223 A3h:=by
 refine fK [0,2,3,4,9,14] Tryz.func223 Tryz.ntmps223 (AE A3d AH) ?_;rintro w0 O0 ⟨b,u⟩ c-e;have e:b.length<=100000:=e;simp only[A3h,AM];repeat'(first|exact trivial|apply eS rfl|refine rX c ?_ ?_)
 refine AJ (ι:={n:Nat//n<=64*b.length}) (λn=>⟨[(0,.p BM b),(3,.sr 18 T3 0 (Nu b n.1).length),(4,.p (.int .i64) (n.1:Int))],[(18,.arr 3 T3 (Nu b n.1))]⟩) (λn=>64*b.length-n.1) ⟨0,IS _⟩ (AC [(18,.nil)] rfl rfl ?_ ?_) (λn=>?_)
 .refine eM ?_;rfl
 .refine eM ?_;rfl
 obtain⟨n,hn⟩:=n;have f:=A0I b n;have hs:=oJ b n;simp only;repeat'(first|exact trivial|apply eS rfl|apply AB|refine rX c ?_ ?_|refine rC ?_ ?_<;>intro a<;>try(cases a;done))
 .exact eV
 .rw[a,BY rfl]at hs;simp only[AO];dsimp only[Ty.den]at *;omega
 .exact eV
 .have d:n<64*b.length:=by exact eV
  rw[a,BY rfl]at hs;refine⟨⟨n+1,by omega⟩,by simp only;omega,AC [(18,.nm 18)] rfl rfl ?_ ?_⟩
  .simp only[hs];exact eN
  simp only[hs];exact eN
 .exact eV
 .have d:n<64*b.length:=by exact eV
  rw[a,As (by simp),UF]at hs;refine⟨⟨n+1,by omega⟩,by simp only;omega,AC [(18,.nm 18)] rfl rfl ?_ ?_⟩
  .simp only[hs];exact eN
  simp only[hs];exact eN
 have d:n=64*b.length:=by exact eV
 subst d;refine E6 [18] ?_;exact fI c [.tmp 2] (by unfold H5;exact eR)
def oK:AZ:={ ins:=[BM],pre:=λ(b,_)=>List.length b<=100000,out:=λ(b,_)=>[.p T3 ((H5 b).length:Int)],lend:=true }
theorem A3i:Ab Tryz.prog 207 oK:=by
 refine fK [0,2] Tryz.func207 Tryz.ntmps207 (AE A7a AH) ?_;rintro w0 O0 ⟨b,u⟩ a-c;simp only[oK,AM];repeat'(first|exact trivial|apply eS rfl|refine rX a ?_ ?_)
 .exact c
 exact fI a [.tmp 2]
end
section
attribute [local go_sem] JM A38
abbrev AK:=ByteArray×List ByteArray×List (ByteArray×ByteArray)
abbrev d0:AK:=(ByteArray.empty,[],[])
def Ck (s:ByteArray):Nat->List AK->Int
 | _,[]=>-1
 | k,x :: l=>if Ah x.1 s=true then (k:Int) else Ck s (k+1) l
def BI (l:List AK) (s:ByteArray):Int:=Ck s 0 l
theorem Sy (s:ByteArray) (l:List AK) {k:Nat} (h:k<l.length):Ck s k (l.drop k)=if Ah (l.getD k d0).1 s=true then (k:Int) else Ck s (k+1) (l.drop (k+1)):=by
 rw[Tj h];have e:l.getD k d0=l[k]:=by simp[AS,h]
 rw[e];rfl
def OZ:AZ:={ ins:=[Eo,T9],pre:=λ_=>True,out:=λ(l,s,_)=>[.p T3 (BI l s)] }
attribute [local go_sem] OZ
theorem Lx:Ab Tryz.prog 219 OZ:=by
 refine fK [0,1,4,5,9,18] Tryz.func219 Tryz.ntmps219 AH ?_;rintro w0 O0 ⟨l,s,u⟩ c ⟨⟨d,-⟩,-⟩ -;simp only[AO]at d;simp only[OZ,AM];repeat'(first|exact trivial|apply eS rfl|refine rX c ?_ ?_)
 refine AJ (ι:={k:Nat//k<=l.length/\Ck s k (l.drop k)=BI l s}) (λk=>⟨[(0,.p Eo l),(1,.p T9 s),(5,.p (.int .i64) (k.1:Int))],[]⟩) (λk=>l.length-k.1) ⟨0,IS _,rfl⟩ (eW []) (λk=>?_)
 obtain⟨k,hk,hf⟩:=k;simp only;repeat'(first|exact trivial|apply eS rfl|apply AB|refine rX c ?_ ?_|refine rC ?_ ?_<;>intro b<;>try(cases b;done))
 .exact b
 .have a:k<l.length:=by exact eV
  rw[Sy s l a,BY b]at hf;exact fI c [.tmp 4] (by rw[<-hf];exact eR)
 .exact eV
 .have a:k<l.length:=by exact eV
  rw[Sy s l a,As (by rw[b];simp)]at hf;exact⟨⟨k+1,by omega,hf⟩,by simp only;omega,eW []⟩
 have a:l.drop k=[]:=On (by exact eV);rw[a]at hf;exact fI c [.tmp 4] (by rw[<-hf];first|exact eR|refine Wf ?_;rfl)
def Ly:List AK->Int
 | []=>0
 | x :: l=>if 256<x.2.1.length\/256<x.2.2.length then 7 else Ly l
def Ew (l:List AK):Int:=if 256<l.length then 7 else Ly l
theorem Sz (l:List AK) {k:Nat} (h:k<l.length):Ly (l.drop k)=if 256<(l.getD k d0).2.1.length\/256<(l.getD k d0).2.2.length then 7 else Ly (l.drop (k+1)):=by
 rw[Tj h];have e:l.getD k d0=l[k]:=by simp[AS,h]
 rw[e];rfl
def dJ:AZ:={ ins:=[Eo],pre:=λ_=>True,out:=λ(l,_)=>[.p GK (Ew l)] }
attribute [local go_sem] dJ
theorem A3j:Ab Tryz.prog 196 dJ:=by
 refine fK [0,2,3,6,10,28] Tryz.func196 Tryz.ntmps196 AH ?_;rintro w0 O0 ⟨l,u⟩ b ⟨⟨d,-⟩,-⟩ -;simp only[AO]at d;simp only[dJ,AM];repeat'(first|exact trivial|apply eS rfl|refine rX b ?_ ?_|refine rC ?_ ?_<;>intro a<;>try(cases a;done))
 .have h1:Ew l=7:=by unfold Ew;rw[BY (by exact eV)]
  exact fI b [.tmp 2] (by rw[h1];exact eR)
 have h1:Ew l=Ly l:=by unfold Ew;rw[As (by exact eV)]
 refine AJ (ι:={k:Nat//k<=l.length/\Ly (l.drop k)=Ew l}) (λk=>⟨[(0,.p Eo l),(3,.p (.int .i64) (k.1:Int))],[]⟩) (λk=>l.length-k.1) ⟨0,IS _,h1.symm⟩ (eW []) (λk=>?_)
 obtain⟨k,hk,hf⟩:=k;simp only;repeat'(first|exact trivial|apply eS rfl|apply AB|refine rX b ?_ ?_|refine rC ?_ ?_<;>intro a<;>try(cases a;done))
 .exact⟨a,λ_=>a⟩
 .have c:k<l.length:=by exact eV
  rw[Sz l c,BY (by
   rcases a with h|h
   .exact .inl (Do.1 h)
   exact .inr (Do.1 h))]at hf
  exact fI b [.tmp 2] (by rw[<-hf];exact eR)
 .exact eV
 .have c:k<l.length:=by exact eV
  rw[Sz l c,As (by
   rintro (h|h)
   .have:=Tn.1 a.1;exact absurd h (Nat.not_lt.2 this)
   have:=Tn.1 a.2;exact absurd h (Nat.not_lt.2 this))]at hf
  exact⟨⟨k+1,by omega,hf⟩,by simp only;omega,eW []⟩
 have c:l.drop k=[]:=On (by exact eV);rw[c]at hf;exact fI b [.tmp 2] (by rw[<-hf];first|exact eR|refine Wf ?_;rfl)
theorem Jq {α:Type} (l:List α) (d:α) (p:α->Bool) {k:Nat} (h:k<l.length):(l.take (k+1)).all p=((l.take k).all p&&p (l.getD k d)):=by
 rw[Ax l d h,AD7];simp
def JN (x:AK) (done:List ByteArray):Bool:=x.2.1.all λs=>Ag done s
def dL:AZ:={ ins:=[A0E,F4],pre:=λ_=>True,out:=λ(x,l,_)=>[.p .bool (JN x l)],lend:=true }
attribute [local go_sem] dL
theorem A3k:Ab Tryz.prog 220 dL:=by
 refine fK [0,1,2,4,5,10,20] Tryz.func220 Tryz.ntmps220 (AE Gj AH) ?_;rintro w0 O0 ⟨⟨nm,sup,d⟩,l,u⟩ c ⟨⟨-,⟨e,-⟩,-⟩,-⟩ -;simp only[AO]at e;simp only[dL,AM];repeat'(first|exact trivial|apply eS rfl|refine rX c ?_ ?_)
 refine AJ (ι:={k:Nat//k<=sup.length/\(sup.take k).all (λs=>Ag l s)=true}) (λk=>⟨[(1,.p F4 l),(2,.bp 2 [] 0),(5,.p (.int .i64) (k.1:Int))],[(2,.box 158 true [.p T9 nm,.p F4 sup,.p iW d])]⟩) (λk=>sup.length-k.1) ⟨0,by simp⟩ (eW [(2,.nm 2)]) (λk=>?_)
 obtain⟨k,hk,hf⟩:=k;simp only;repeat'(first|exact trivial|apply eS rfl|apply AB|refine rX c ?_ ?_|refine rC ?_ ?_<;>intro b<;>try(cases b;done))
 .exact b
 .have a:k<sup.length:=by exact eV
  have h1:JN (nm,sup,d) l=false:=by
   unfold JN;refine Ym.2 λh=>?_;have:=ON.1 h _ (AF sup ByteArray.empty a);rw[b]at this;cases this
  exact fI c [.tmp 4] (by rw[h1];exact eR)
 .have:=e;exact eV
 .have a:k<sup.length:=by exact eV
  refine⟨⟨k+1,by omega,?_⟩,by simp only;omega,AC [(2,.nm 2)] rfl rfl ?_ ?_⟩
  .rw[Jq sup ByteArray.empty _ a,hf];exact b
  .exact eN
  exact eN
 have a:sup.take k=sup:=At (by exact eV);rw[a]at hf;have h1:JN (nm,sup,d) l=true:=hf;exact fI c [.tmp 4] (by rw[h1];exact eR)
def Oa (d:List AK):Nat->List AK->Int
 | _,[]=>0
 | k,x :: l=>if Eu x.1 false=false then 1 else if BI d x.1<(k:Int) then 4 else Oa d (k+1) l
def Dh (d:List AK):Int:=Oa d 0 d
theorem Lz (d l:List AK) {k:Nat} (h:k<l.length):Oa d k (l.drop k)=if Eu (l.getD k d0).1 false=false then 1 else if BI d (l.getD k d0).1<(k:Int) then 4 else Oa d (k+1) (l.drop (k+1)):=by
 rw[Tj h];have e:l.getD k d0=l[k]:=by simp[AS,h]
 rw[e];rfl
def dM:AZ:={ ins:=[Eo],pre:=λ_=>True,out:=λ(l,_)=>[.p GK (Dh l)] }
attribute [local go_sem] dM
theorem A3l:Ab Tryz.prog 197 dM:=by
 refine fK [0,2,3,7,16,25] Tryz.func197 Tryz.ntmps197 (AE A79 (AE Lx AH)) ?_;rintro w0 O0 ⟨l,u⟩ c ⟨⟨e,-⟩,-⟩ -;simp only[AO]at e;simp only[dM,AM];repeat'(first|exact trivial|apply eS rfl|refine rX c ?_ ?_)
 refine AJ (ι:={k:Nat//k<=l.length/\Oa l k (l.drop k)=Dh l}) (λk=>⟨[(0,.p Eo l),(3,.p (.int .i64) (k.1:Int))],[]⟩) (λk=>l.length-k.1) ⟨0,IS _,rfl⟩ (eW []) (λk=>?_)
 obtain⟨k,hk,hf⟩:=k;simp only;repeat'(first|exact trivial|apply eS rfl|apply AB|refine rX c ?_ ?_|refine rC ?_ ?_<;>intro b<;>try(cases b;done))
 .exact b
 .have a:k<l.length:=by exact eV
  rw[Lz l l a,BY b]at hf;exact fI c [.tmp 2] (by rw[<-hf];exact eR)
 .assumption
 .rename_i d;have a:k<l.length:=by exact eV
  rw[Lz l l a,As (by rw[d];simp),BY b]at hf;exact fI c [.tmp 2] (by rw[<-hf];exact eR)
 .exact eV
 .rename_i d;have a:k<l.length:=by exact eV
  rw[Lz l l a,As (by rw[d];simp),As (Yd.2 b)]at hf;exact⟨⟨k+1,by omega,hf⟩,by simp only;omega,eW []⟩
 have a:l.drop k=[]:=On (by exact eV);rw[a]at hf;exact fI c [.tmp 2] (by rw[<-hf];first|exact eR|refine Wf ?_;rfl)
def Td (d:List AK) (l:List ByteArray):Nat->List ByteArray->Int
 | _,[]=>0
 | k,x :: r=>if BI d x<0 then 5 else if Ag (l.take k) x=true then 4 else Td d l (k+1) r
def Kj (d:List AK):List AK->Int
 | []=>0
 | x :: l=>if Td d x.2.1 0 x.2.1≠0 then Td d x.2.1 0 x.2.1 else Kj d l
def Kk (d:List AK):Int:=Kj d d
theorem Rn (d:List AK) (l:List ByteArray) {k:Nat} (h:k<l.length):Td d l k (l.drop k)=if BI d (l.getD k ByteArray.empty)<0 then 5 else if Ag (l.take k) (l.getD k ByteArray.empty)=true then 4 else Td d l (k+1) (l.drop (k+1)):=by
 rw[Tj h];have e:l.getD k ByteArray.empty=l[k]:=by simp[AS,h]
 rw[e];rfl
theorem dN (d l:List AK) {k:Nat} (h:k<l.length):Kj d (l.drop k)=if Td d (l.getD k d0).2.1 0 (l.getD k d0).2.1≠0 then Td d (l.getD k d0).2.1 0 (l.getD k d0).2.1 else Kj d (l.drop (k+1)):=by
 rw[Tj h];have e:l.getD k d0=l[k]:=by simp[AS,h]
 rw[e];rfl
def VO:AZ:={ ins:=[Eo],pre:=λ_=>True,out:=λ(l,_)=>[.p GK (Kk l)] }
attribute [local go_sem] VO
theorem A0J:Ab Tryz.prog 198 VO:=by
 refine fK [0,2,3,4,5,9,20,29,37] Tryz.func198 Tryz.ntmps198 (AE Gj (AE Lx AH)) ?_;rintro w0 O0 ⟨l,u⟩ d ⟨⟨h,g⟩,-⟩ -;simp only[AO]at h;simp only[VO,AM];repeat'(first|exact trivial|apply eS rfl|refine rX d ?_ ?_)
 refine AJ (ι:={i:Nat//i<=l.length/\Kj l (l.drop i)=Kk l}) (λi=>⟨[(0,.p Eo l),(3,.p (.int .i64) (i.1:Int))],[]⟩) (λi=>l.length-i.1) ⟨0,IS _,rfl⟩ (eW []) (λi=>?_)
 obtain⟨i,hi,hf⟩:=i;simp only;repeat'(first|exact trivial|apply eS rfl|refine rX d ?_ ?_|refine rC ?_ ?_<;>intro b<;>try(cases b;done))
 .exact b
 .have f:i<l.length:=by exact eV
  have j:=g _ (AF l d0 f);have m:(l.getD i d0).2.1.length<=AO:=j.2.1.1;simp only[AO]at m;rw[dN l l f]at hf;generalize (l.getD i d0).2.1=sup at *;refine AJ (ι:={k:Nat//k<=sup.length/\Td l sup k (sup.drop k)=Td l sup 0 sup}) (λk=>⟨[(0,.p Eo l),(3,.p (.int .i64) (i:Int)),(4,.p F4 sup),(5,.p (.int .i64) (k.1:Int))],[]⟩) (λk=>sup.length-k.1) ⟨0,IS _,rfl⟩ (eW []) (λk=>?_)
  obtain⟨k,hk,c⟩:=k;simp only;repeat'(first|exact trivial|apply eS rfl|apply AB|refine rX d ?_ ?_|refine rC ?_ ?_<;>intro b<;>try(cases b;done))
  .exact b
  .have a:k<sup.length:=by exact eV
   rw[Rn l sup a,BY b]at c;rw[<-c,BY (by decide)]at hf;exact fI d [.tmp 2] (by rw[<-hf];exact eR)
  .exact eV
  .rename_i e;have a:k<sup.length:=by exact eV
   rw[Rn l sup a,As (Yd.2 e),BY b]at c;rw[<-c,BY (by decide)]at hf;exact fI d [.tmp 2] (by rw[<-hf];exact eR)
  .exact eV
  .rename_i e;have a:k<sup.length:=by exact eV
   rw[Rn l sup a,As (Yd.2 e),As (by rw[b];simp)]at c;exact⟨⟨k+1,by omega,c⟩,by simp only;omega,eW []⟩
  .exact eV
  have a:sup.drop k=[]:=On (by exact eV);rw[a]at c;rw[<-c,As (by simp[Td])]at hf;exact⟨⟨i+1,by omega,hf⟩,by simp only;omega,eW []⟩
 have a:l.drop i=[]:=On (by exact eV);rw[a]at hf;exact fI d [.tmp 2] (by rw[<-hf];first|exact eR|refine Wf ?_;rfl)
end
section
attribute [local go_sem] OZ dL JM dH
theorem Ei {α β:Type} (g:β->α->β) (l:List α) (d:α) (t:β) {i:Nat} (hi:i<l.length):(l.take (i+1)).foldl g t=g ((l.take i).foldl g t) (l.getD i d):=by
 rw[Ax l d hi,Yy];rfl
theorem L1 (l:List ByteArray) (s:ByteArray):(D9 l s).length<=l.length+1:=by
 unfold D9;split
 .omega
 have:=A8D (λx=>G8 x s) l;have a:atF l s<=l.length:=this;simp only[A0,OR,UL,GO];omega
def AX (l:List AK):List ByteArray:=l.foldl (λo x=>D9 o x.1) []
theorem FD (l:List AK) (k:Nat):(AX (l.take k)).length<=k:=by
 have key:∀(l:List AK) (o:List ByteArray),(l.foldl (λo x=>D9 o x.1) o).length<=o.length+l.length:=by
  intro l;induction l with
  | nil=>intro o;simp
  | cons x l b =>
   intro o;have h1:=b (D9 o x.1);have a:=L1 o x.1;simp only[Tk,OS];omega
 have h1:=key (l.take k) [];have a:=Ub k l;unfold AX;simp only[Ug]at h1;omega
def QO:AZ:={ ins:=[Eo],pre:=λ(l,_)=>List.length l<=100000,out:=λ(l,_)=>[.p F4 (AX l)] }
attribute [local go_sem] QO
theorem Zt:Ab Tryz.prog 161 QO:=by
 refine fK [0,2,3,4,8] Tryz.func161 Tryz.ntmps161 (AE Rk AH) ?_;rintro w0 O0 ⟨l,u⟩ a-d;have d:l.length<=100000:=d;simp only[QO,AM];repeat'(first|exact trivial|apply eS rfl|refine rX a ?_ ?_)
 refine AJ (ι:={k:Nat//k<=l.length}) (λk=>⟨[(0,.p Eo l),(3,.p F4 (AX (l.take k.1))),(4,.p (.int .i64) (k.1:Int))],[]⟩) (λk=>l.length-k.1) ⟨0,IS _⟩ (AC [] rfl rfl ?_ ?_) (λk=>?_)
 .exact eN
 .refine eM ?_;rfl
 obtain⟨k,hk⟩:=k;have hn:=FD l k;have hs:=λh:k<l.length=>Ei (λ(o:List ByteArray) (x:AK)=>D9 o x.1) l d0 [] h;simp only;repeat'(first|exact trivial|apply eS rfl|apply AB|refine rX a ?_ ?_|refine rC ?_ ?_<;>intro c<;>try(cases c;done))
 .exact⟨c,by omega⟩
 .exact eV
 .have b:k<l.length:=by exact eV
  have e:=hs b;refine⟨⟨k+1,by omega⟩,by simp only;omega,AC [] rfl rfl ?_ ?_⟩
  .exact eN
  simp only;have e:AX (l.take (k+1))=D9 (AX (l.take k)) (l.getD k d0).1:=e;rw[e];exact eN
 have b:l.take k=l:=At (by exact eV);rw[b];exact fI a [.tmp 2]
def Iv (out:List ByteArray) (s:Bool×ByteArray) (x:AK):Bool×ByteArray :=
 if (Ag out x.1||!JN x out)=true then s else (true,if (!s.1||G8 x.1 s.2)=true then x.1 else s.2)
def H6 (d:List AK) (out:List ByteArray):Bool×ByteArray:=d.foldl (Iv out) (false,ByteArray.empty)
def Iw (d:List AK):Nat->List ByteArray->List ByteArray
 | 0,out=>out
 | n+1,out=>if (H6 d out).1=true then Iw d n (out++[(H6 d out).2]) else out
def Bi (d:List AK):List ByteArray:=Iw d d.length []
def H7 (d:List AK) (out:List ByteArray):Nat:=d.countP λx=>!Ag out x.1
theorem FE (s:ByteArray):Ah s s=true:=by unfold Ah;simp
theorem Ob (out:List ByteArray) (s x:ByteArray):Ag (out++[s]) x=(Ag out x||Ah s x):=by
 unfold Ag;simp[AD5]
theorem A0K (d:List AK) (out:List ByteArray) (h:(H6 d out).1=true):∃x∈d,x.1=(H6 d out).2/\Ag out x.1=false:=by
 have key:∀(l:List AK) (s:Bool×ByteArray),(∀x∈l,x∈d)->(s.1=true->∃x∈d,x.1=s.2/\Ag out x.1=false)->(l.foldl (Iv out) s).1=true ->
   ∃x∈d,x.1=(l.foldl (Iv out) s).2/\Ag out x.1=false:=by
  intro l;induction l with
  | nil=>intro s _ hs h;exact hs h
  | cons y l g =>
   intro s c hs h;rw[Tk]at h ⊢;refine g _ (λx e=>c x (by simp[e])) (λhp=>?_) h;unfold Iv at hp ⊢;split
   .rename_i a;rw[BY a]at hp;exact hs hp
   rename_i a;simp only;have f:Ag out y.1=false:=by
    cases hh:Ag out y.1 with
    | false=>rfl
    | true=>rw[hh]at a;simp at a
   split
   .exact⟨y,c y (by simp),rfl,f⟩
   rename_i b;have:s.1=true:=by
    cases hh:s.1 with
    | true=>rfl
    | false=>rw[hh]at b;simp at b
   exact hs this
 exact key d _ (λ_ h=>h) (λh=>by cases h) h
theorem i6 {d:List AK} {out:List ByteArray} (h:(H6 d out).1=true):H7 d (out++[(H6 d out).2])<H7 d out:=by
 obtain⟨x,e,h1,c⟩:=A0K d out h;generalize (H6 d out).2=s at *;unfold H7;have key:∀l:List AK,(l.countP λy=>!Ag (out++[s]) y.1)<=l.countP λy=>!Ag out y.1:=by
  intro l;refine List.countP_mono_left λy _ a=>?_;rw[Ob]at a;cases hh:Ag out y.1 with
  | false=>rfl
  | true=>rw[hh]at a;simp at a
 obtain⟨f,g,rfl⟩:=List.append_of_mem e;rw[AE5,AE5,f9,f9];have i:=key f;have j:=key g;have b:Ag (out++[s]) x.1=true:=by rw[Ob,h1,FE,Bool.or_true]
 rw[b,c];simp only[Bool.not_true,Bool.not_false,Ut];simp only[Ua,YZ];omega
def dP:AZ:={ ins:=[Eo],pre:=λ(l,_)=>List.length l<=100000,out:=λ(l,_)=>[.p F4 (Bi l)] }
theorem A0L:Ab Tryz.prog 199 dP:=by
 refine fK [0,2,3,4,5,6,7,11,29,40,46] Tryz.func199 Tryz.ntmps199 (AE Gj (AE A3k AH)) ?_;rintro w0 O0 ⟨d,u⟩ j-r;have r:d.length<=100000:=r;simp only[dP,AM];repeat'(first|exact trivial|apply eS rfl|refine rX j ?_ ?_)
 refine AJ (ι:={x:Nat×List ByteArray×Bool//x.1+x.2.1.length<=d.length/\(x.2.2=true->H7 d x.2.1<=x.1/\Iw d x.1 x.2.1=Bi d)/\(x.2.2=false->x.2.1=Bi d)}) (λx=>⟨[(0,.p Eo d),(3,.sr 50 T9 0 x.1.2.1.length),(4,.p .bool x.1.2.2)],[(50,.arr 9 T9 x.1.2.1)]⟩) (λx=>(if x.1.2.2=true then x.1.1+1 else 0)) ⟨(d.length,[],true),by simp,λ_=>⟨List.countP_le_length,rfl⟩,λh=>by cases h⟩ (eW [(50,.nil)]) (λx=>?_)
 obtain⟨⟨n,out,C⟩,s,t,v⟩:=x;simp only at s t v;simp only;repeat'(first|exact trivial|apply eS rfl|refine rX j ?_ ?_|refine rC ?_ ?_<;>intro a<;>try(cases a;done))
 .subst a;obtain⟨hu,hp⟩:=t rfl;have B:({ data:=#[] }:ByteArray).size<=AO:=by decide
  rw[BY B];refine AJ (ι:={y:Nat×Bool×ByteArray//y.1<=d.length/\(d.take y.1).foldl (Iv out) (false,ByteArray.empty)=y.2}) (λy=>⟨[(0,.p Eo d),(3,.sr 50 T9 0 out.length),(4,.p .bool y.1.2.1),(5,.p T9 y.1.2.2),(6,.p (.int .i64) (y.1.1:Int))],[(50,.arr 9 T9 out)]⟩) (λy=>d.length-y.1.1) ⟨(0,false,ByteArray.empty),by simp,rfl⟩ (AC [(50,.nm 50)] rfl rfl ?_ ?_) (λy=>?_)
  .exact eN
  .refine eM ?_;rfl
  obtain⟨⟨k,w,b⟩,hk,c⟩:=y;simp only at hk c;have q:∀h:k<d.length,(d.take (k+1)).foldl (Iv out) (false,ByteArray.empty)=Iv out (w,b) (d.getD k d0):=λh=>by
   rw[Ei (Iv out) d d0 _ h,c]
  simp only;repeat'(first|exact trivial|apply eS rfl|apply AB|refine rX j ?_ ?_|refine rC ?_ ?_<;>intro a<;>try(cases a;done))
  .exact⟨a,λ_=>a⟩
  .exact eV
  .have g:k<d.length:=by exact eV
   refine⟨⟨(k+1,w,b),by simp only;omega,?_⟩,by simp only;omega,AC [(50,.nm 50)] rfl rfl ?_ ?_⟩
   .simp only;rw[q g];unfold Iv;rw[BY];rw[UI,TO];exact a
   .exact eN
   exact eN
  .exact λ_=>by assumption
  .assumption
  .exact eV
  .rename_i f;have g:k<d.length:=by exact eV
   refine⟨⟨(k+1,true,(d.getD k d0).1),by simp only;omega,?_⟩,by simp only;omega,AC [(50,.nm 50)] rfl rfl ?_ ?_⟩
   .simp only;rw[q g];unfold Iv;rw[As (by rw[f.1,f.2];simp),BY (by rw[UI,TO];exact a)]
   .exact eN
   exact eN
  .exact eV
  .rename_i f;have g:k<d.length:=by exact eV
   refine⟨⟨(k+1,true,b),by simp only;omega,?_⟩,by simp only;omega,AC [(50,.nm 50)] rfl rfl ?_ ?_⟩
   .simp only;rw[q g];unfold Iv;rw[As (by rw[f.1,f.2];simp),As (by rw[UI,TO];rintro (h|h)<;>simp_all)]
   .exact eN
   exact eN
  .simp only[AO];dsimp only[Ty.den]at *;omega
  .subst a;have l:d.take k=d:=At (by exact eV);rw[l]at c;have i:H6 d out=(true,b):=c;have m:=i6 (d:=d) (out:=out) (by rw[i]);rw[i]at m;obtain⟨e,rfl⟩:∃e,n=e+1:=⟨n-1,by omega⟩;have o:Iw d e (out++[b])=Bi d:=by
    rw[<-hp];show _=if (H6 d out).1=true then Iw d e (out++[(H6 d out).2]) else out
    rw[i,BY rfl]
   have m:H7 d (out++[b])<H7 d out:=m;have A:H7 d (out++[b])<=e:=by omega
   exact⟨⟨(e,out++[b],true),by simp only[A0,GO];omega,λ_=>⟨A,o⟩,λh=>by cases h⟩,by simp,eW [(50,.nm 50)]⟩
  subst a;have l:d.take k=d:=At (by exact eV);rw[l]at c;have i:H6 d out=(false,b):=c;have o:out=Bi d:=by
   rw[<-hp];cases n with
   | zero=>rfl
   | succ n =>
    show _=if (H6 d out).1=true then Iw d n (out++[(H6 d out).2]) else out
    rw[i,As (by simp)]
  exact⟨⟨(n,out,false),s,(λh=>by cases h),λ_=>o⟩,by simp,eW [(50,.nm 50)]⟩
 subst a;have z:=v rfl;rw[z];refine E6 [50] ?_;exact fI j [.tmp 2]
end
section
attribute [local go_sem] dJ dM VO dP
def H8 (d:List AK):Nat:=d.countP λx=>x.2.1.length==0
theorem i7 (d:List AK) {k:Nat} (h:k<d.length):H8 (d.take (k+1))=H8 (d.take k)+if ((d.getD k d0).2.1.length==0)=true then 1 else 0:=by
 unfold H8;rw[Ax d d0 h,AE5,f9,List.countP_nil];omega
theorem A0M (d:List AK):H8 d<=d.length:=List.countP_le_length
def BU (d:List AK):Int :=
 if Ew d≠0 then Ew d else if Dh d≠0 then Dh d else if Kk d≠0 then Kk d else if H8 d≠1 then 1 else if (Bi d).length<d.length then 6 else 0
theorem S0 {d:List AK} (h:Ew d=0):d.length<=256:=by
 unfold Ew at h;split at h
 .cases h
 omega
def VP:AZ:={ ins:=[Eo],pre:=λ_=>True,out:=λ(l,_)=>[.p GK (BU l)] }
attribute [local go_sem] VP
theorem A0N:Ab Tryz.prog 160 VP:=by
 refine fK [0,2,3,4,5,6,7,11,16,21,26,35,39,45] Tryz.func160 Tryz.ntmps160 (AE A3j (AE A3l (AE A0J (AE A0L AH)))) ?_;rintro w0 O0 ⟨d,u⟩ c - -;simp only[VP,AM];repeat'(first|exact trivial|apply eS rfl|refine rX c ?_ ?_|refine rC ?_ ?_<;>intro a<;>try(cases a;done))
 .have h1:BU d=Ew d:=by unfold BU;rw[BY a]
  exact fI c [.tmp 2] (by rw[h1];exact eR)
 .rename_i hs;have hs:Ew d=0:=by simpa using hs
  have h1:BU d=Dh d:=by unfold BU;rw[As (by rw[hs];simp),BY a]
  exact fI c [.tmp 2] (by rw[h1];exact eR)
 .rename_i hs hn;have hs:Ew d=0:=by simpa using hs
  have hn:Dh d=0:=by simpa using hn
  have h1:BU d=Kk d:=by unfold BU;rw[As (by rw[hs];simp),As (by rw[hn];simp),BY a]
  exact fI c [.tmp 2] (by rw[h1];exact eR)
 rename_i hs hn;have hs:Ew d=0:=by simpa using hs
 have hn:Dh d=0:=by simpa using hn
 have hu:Kk d=0:=by simpa using a
 have i:=S0 hs;have h1:BU d=if H8 d≠1 then 1 else if (Bi d).length<d.length then 6 else 0:=by
  unfold BU;rw[As (by rw[hs];simp),As (by rw[hn];simp),As (by rw[hu];simp)]
 refine AJ (ι:={k:Nat//k<=d.length}) (λk=>⟨[(0,.p Eo d),(6,.p (.int .i64) (H8 (d.take k.1):Int)),(7,.p (.int .i64) (k.1:Int))],[]⟩) (λk=>d.length-k.1) ⟨0,IS _⟩ (AC [] rfl rfl ?_ ?_) (λk=>?_)
 .exact eN
 .refine eM ?_;rfl
 obtain⟨k,hk⟩:=k;have j:=A0M (d.take k);have l:=Ub k d;have g:=λh:k<d.length=>i7 d h;simp only;repeat'(first|exact trivial|apply eS rfl|apply AB|refine rX c ?_ ?_|refine rC ?_ ?_<;>intro a<;>try(cases a;done))
 .exact a
 .exact eV
 .exact eV
 .have b:k<d.length:=by exact eV
  have e:=g b;rw[BY (by rw[UP];exact Int.ofNat_eq_zero.1 a)]at e;refine⟨⟨k+1,by omega⟩,by simp only;omega,AC [] rfl rfl ?_ ?_⟩
  .exact eN
  simp only[e];exact eN
 .exact eV
 .have b:k<d.length:=by exact eV
  have e:=g b;rw[As (by rw[UP];exact λh=>a (Int.ofNat_eq_zero.2 h))]at e;refine⟨⟨k+1,by omega⟩,by simp only;omega,AC [] rfl rfl ?_ ?_⟩
  .exact eN
  simp only[e];exact eN
 .have b:d.take k=d:=At (by exact eV);rw[b]at a;rw[BY (λh=>a (by rw[h];rfl))]at h1;exact fI c [.tmp 2] (by rw[h1];exact eR)
 .show d.length<=100000;omega
 .rename_i f;have b:d.take k=d:=At (by exact eV);rw[b]at f;have f:(H8 d:Int)=1:=by simpa using f
  rw[As (by omega),BY (Do.1 a)]at h1;exact fI c [.tmp 2] (by rw[h1];exact eR)
 rename_i f;have b:d.take k=d:=At (by exact eV);rw[b]at f;have f:(H8 d:Int)=1:=by simpa using f
 rw[As (by omega),As (λh=>absurd (Tn.1 a) (Nat.not_le.2 h))]at h1;exact fI c [.tmp 2] (by rw[h1];exact eR)
end
section
attribute [local go_sem] OZ JM dH
def L2 (o:List ByteArray) (s:ByteArray):List ByteArray:=if Ag o s=true then o else o++[s]
def L3 (d:List AK) (s:ByteArray):List ByteArray:=(d.getD (BI d s).toNat d0).2.1
def Kl (d:List AK):Nat->Nat->List ByteArray->List ByteArray
 | 0,_,o=>o
 | n+1,i,o=>if i<o.length then Kl d n (i+1) ((L3 d (o.getD i ByteArray.empty)).foldl L2 o) else o
def L4 (l:List ByteArray):List ByteArray:=l.foldl D9 []
theorem Zu (l:List ByteArray):(L4 l).length<=l.length:=by
 have key:∀(l o:List ByteArray),(l.foldl D9 o).length<=o.length+l.length:=by
  intro l;induction l with
  | nil=>intro o;simp
  | cons x l a =>
   intro o;have h1:=a (D9 o x);have b:=L1 o x;simp only[Tk,OS];omega
 have:=key l [];simpa[L4] using this
def Oc (d:List AK) (s:ByteArray):List ByteArray:=if BI d s<0 then [] else L4 (Kl d d.length 0 [s])
def Wn (d:List AK):Prop:=∀x∈d,∀s∈x.2.1,0<=BI d s
theorem Zv (s:ByteArray):∀(l:List AK) (k:Nat),Ck s k l=-1\/((k:Int)<=Ck s k l/\Ck s k l<(k:Int)+l.length/\Ah (l.getD ((Ck s k l).toNat-k) d0).1 s=true)
 | [],_=>.inl rfl
 | x :: l,k=>by
  simp only[Ck];split
  .rename_i h;right;refine⟨by omega,by simp only[OS];omega,?_⟩;have:((k:Int).toNat-k)=0:=by omega
   rw[this];exact h
  rcases Zv s l (k+1) with h|⟨h1,b,a⟩
  .exact .inl h
  right;refine⟨by omega,by simp only[OS];omega,?_⟩;have:((Ck s (k+1) l).toNat-k)=((Ck s (k+1) l).toNat-(k+1))+1:=by omega
  rw[this];exact a
theorem DY (d:List AK) (s:ByteArray):BI d s<0\/(0<=BI d s/\BI d s<(d.length:Int)/\Ah (d.getD (BI d s).toNat d0).1 s=true):=by
 rcases Zv s d 0 with h|⟨h1,a,b⟩
 .left;show Ck s 0 d<0;omega
 have a:BI d s<((0:Nat):Int)+d.length:=a;exact .inr ⟨h1,by omega,b⟩
theorem Jr {a b:ByteArray}:Ah a b=true↔a.toList=b.toList:=by unfold Ah;simp
theorem FF {a b:ByteArray} (h:Ah a b=true):Ah b a=true:=Jr.2 (Jr.1 h).symm
theorem DD {a b c:ByteArray} (h:Ah a b=true) (g:Ah b c=true):Ah a c=true:=Jr.2 ((Jr.1 h).trans (Jr.1 g))
structure f5 (d:List AK) (o:List ByteArray):Prop where
 decl:∀s∈o,0<=BI d s
 nd:o.Pairwise λa b=>Ah a b=false
theorem Km (d:List AK):∀ {o:List ByteArray},f5 d o->(o.map λs=>(BI d s).toNat).Nodup
 | [],_=>by simp
 | s :: o,h=>by
  rw[UD,US];have c:=UM.1 h.nd;refine⟨λi=>?_,Km d ⟨λx a=>h.decl x (by simp[a]),c.2⟩⟩;obtain⟨x,a,e⟩:=If.1 i;have h1:=h.decl s (by simp);have j:=h.decl x (by simp[a]);rcases DY d s with g|⟨_,_,f⟩
  .omega
  rcases DY d x with g|⟨_,_,b⟩
  .omega
  rw[e]at b;have:=c.1 x a;rw[DD (FF f) b]at this;cases this
theorem f5.len {d:List AK} {o:List ByteArray} (h:f5 d o):o.length<=d.length:=by
 have:=Dz d.length (o.map λs=>(BI d s).toNat) (Km d h) (λj a=>by
  obtain⟨s,hs,rfl⟩:=If.1 a;have h1:=h.decl s hs;rcases DY d s with g|⟨_,g,_⟩<;>omega)
 simpa using this
theorem QP {o:List ByteArray} {s:ByteArray} (h:Ag o s=false):∀x∈o,Ah x s=false:=λx a=>by
 cases hh:Ah x s with
 | false=>rfl
 | true=>exact absurd h (by rw[show Ag o s=true from UA.2 ⟨x,a,hh⟩];simp)
theorem yL {d:List AK} {o:List ByteArray} (h:f5 d o) {s:ByteArray} (hs:0<=BI d s):f5 d (L2 o s):=by
 unfold L2;split
 .exact h
 rename_i e;have e:Ag o s=false:=by simpa using e
 refine⟨λx c=>?_,?_⟩
 .rcases IF.1 c with c|c
  .exact h.decl x c
  have:x=s:=by simpa using c
  rw[this];exact hs
 rw[Yi];refine⟨h.nd,by simp,λa ha b f=>?_⟩;have:b=s:=by simpa using f
 rw[this];exact QP e a ha
theorem i8 {d:List AK}:∀ {l o:List ByteArray},(∀s∈l,0<=BI d s)->f5 d o->f5 d (l.foldl L2 o)/\o.length<=(l.foldl L2 o).length
 | [],o,_,h=>⟨h,Is _⟩
 | s :: l,o,a,h=>by
  obtain⟨b,c⟩:=i8 (l:=l) (λx e=>a x (by simp[e])) (yL h (a s (by simp)));refine⟨b,Tp ?_ c⟩;unfold L2;split<;>simp
theorem i9 {d:List AK} (b:Wn d) (s:ByteArray):∀x∈L3 d s,0<=BI d x:=by
 intro x a;unfold L3 at a;by_cases h:(BI d s).toNat<d.length
 .exact b _ (AF d d0 h) x a
 rw[AS,Ts (by omega)]at a;cases a
def oL:AZ:={ ins:=[Eo,T9],pre:=λ(d,_,_)=>Wn d/\List.length d<=256,out:=λ(d,s,_)=>[.p F4 (Oc d s)] }
theorem A3m:Ab Tryz.prog 222 oL:=by
 refine fK [0,1,4,5,6,7,8,9,10,14,20,36,45,56] Tryz.func222 Tryz.ntmps222 (AE Lx (AE Gj (AE Rk AH))) ?_;rintro w0 O0 ⟨d,s,u⟩ b ⟨⟨Q,G⟩,-⟩ ⟨O,z⟩;have z:d.length<=256:=z;simp only[oL,AM];repeat'(first|exact trivial|apply eS rfl|refine rX b ?_ ?_|refine rC ?_ ?_<;>intro a<;>try(cases a;done))
 .have h1:Oc d s=[]:=by unfold Oc;rw[BY a]
  exact fI b [.tmp 4] (by rw[h1];exact eR)
 have h1:Oc d s=L4 (Kl d d.length 0 [s]):=by unfold Oc;rw[As (Yd.2 a)]
 have F:f5 d [s]:=⟨λx y=>by
  have:x=s:=by simpa using y
  rw[this];exact a,by simp⟩
 refine AJ (ι:={x:Nat×List ByteArray//x.1<=x.2.length/\f5 d x.2/\Kl d (d.length-x.1) x.1 x.2=Kl d d.length 0 [s]}) (λx=>⟨[(0,.p Eo d),(1,.p T9 s),(5,.sr 16 T9 0 x.1.2.length),(6,.p (.int .i64) (x.1.1:Int))],[(16,.arr 9 T9 x.1.2)]⟩) (λx=>d.length-x.1.1) ⟨(0,[s]),by simp,F,rfl⟩ (eW [(16,.nm 16)]) (λx=>?_)
 obtain⟨⟨i,o⟩,hi,c,t⟩:=x;simp only at hi c t;have U:=c.len;simp only;repeat'(first|exact trivial|apply eS rfl|refine rX b ?_ ?_|refine rC ?_ ?_<;>intro a<;>try(cases a;done))
 .have q:i<o.length:=by exact eV
  have A:=c.decl _ (AF o ByteArray.empty q);refine⟨a,A,?_⟩;rcases DY d (o.getD i ByteArray.empty) with g|⟨_,g,_⟩
  .omega
  exact g
 .have q:i<o.length:=by exact eV
  have A:=c.decl _ (AF o ByteArray.empty q);have K:=i9 O (o.getD i ByteArray.empty);have C:Kl d (d.length-(i+1)) (i+1) ((L3 d (o.getD i ByteArray.empty)).foldl L2 o)=Kl d d.length 0 [s]:=by
   rw[<-t];obtain⟨m,B⟩:∃m,d.length-i=m+1:=⟨d.length-i-1,by omega⟩;have H:d.length-(i+1)=m:=by omega
   rw[B,H];show _=if i<o.length then Kl d m (i+1) ((L3 d (o.getD i ByteArray.empty)).foldl L2 o) else o
   rw[BY q]
  have M:(L3 d (o.getD i ByteArray.empty)).length<=AO:=by
   rcases DY d (o.getD i ByteArray.empty) with g|⟨_,g,_⟩
   .omega
   exact(G _ (AF d d0 (k:=(BI d (o.getD i ByteArray.empty)).toNat) (by omega))).2.1.1
  have N:(List.getD d (BI d (o.getD i ByteArray.empty)).toNat (ByteArray.empty,[],[])).2.1=L3 d (o.getD i ByteArray.empty):=rfl;rw[N];generalize L3 d (o.getD i ByteArray.empty)=sup at *;simp only[AO]at M;refine AJ (ι:={k:Nat//k<=sup.length}) (λk=>⟨[(0,.p Eo d),(1,.p T9 s),(5,.sr 16 T9 0 ((sup.take k.1).foldl L2 o).length),(6,.p (.int .i64) (i:Int)),(7,.p F4 sup),(8,.p (.int .i64) (k.1:Int))],[(16,.arr 9 T9 ((sup.take k.1).foldl L2 o))]⟩) (λk=>sup.length-k.1) ⟨0,IS _⟩ (AC [(16,.nm 16)] rfl rfl ?_ ?_) (λk=>?_)
  .refine eM ?_;rfl
  .refine eM ?_;rfl
  obtain⟨k,hk⟩:=k;have w:=i8 (l:=sup.take k) (o:=o) (λx y=>K x (UN y)) c;have S:=w.1.len;have E:=λh:k<sup.length=>Ei L2 sup ByteArray.empty o h;simp only;generalize D:(sup.take k).foldl L2 o=n at *;repeat'(first|exact trivial|apply eS rfl|apply AB|refine rX b ?_ ?_|refine rC ?_ ?_<;>intro a<;>try(cases a;done))
  .exact a
  .refine⟨by exact eV,?_⟩;simp only[AO];dsimp only[Ty.den]at *;omega
  .exact eV
  .have f:k<sup.length:=by exact eV
   have e:=E f;have r:L2 n (sup.getD k ByteArray.empty)=n++[sup.getD k ByteArray.empty]:=by unfold L2;rw[As (by rw[a];simp)]
   rw[r]at e;refine⟨⟨k+1,by omega⟩,by simp only;omega,AC [(16,.nm 16)] rfl rfl ?_ ?_⟩
   .simp only[e];exact eN
   simp only[e];exact eN
  .exact eV
  .have f:k<sup.length:=by exact eV
   have e:=E f;have r:L2 n (sup.getD k ByteArray.empty)=n:=by unfold L2;rw[BY a]
   rw[r]at e;refine⟨⟨k+1,by omega⟩,by simp only;omega,AC [(16,.nm 16)] rfl rfl ?_ ?_⟩
   .simp only[e];exact eN
   simp only[e];exact eN
  .exact eV
  have f:sup.take k=sup:=At (by exact eV);rw[f]at D;rw[D]at C;have J:=w.1;have T:=w.2;exact⟨⟨(i+1,n),by simp only;omega,J,C⟩,by simp only;omega,eW [(16,.nm 16)]⟩
 have I:o=Kl d d.length 0 [s]:=by
  rw[<-t];cases B:d.length-i with
  | zero=>rfl
  | succ m =>
   show _=if i<o.length then _ else o
   rw[As (by exact eV)]
 rw[<-I]at h1;refine AJ (ι:={j:Nat//j<=o.length}) (λj=>⟨[(0,.p Eo d),(5,.sr 16 T9 0 o.length),(9,.p F4 ((o.take j.1).foldl D9 [])),(10,.p (.int .i64) (j.1:Int))],[(16,.arr 9 T9 o)]⟩) (λj=>o.length-j.1) ⟨0,IS _⟩ (AC [(16,.nm 16)] rfl rfl ?_ ?_) (λj=>?_)
 .exact eN
 .refine eM ?_;rfl
 obtain⟨j,R⟩:=j;have L:=λh:j<o.length=>Ei D9 o ByteArray.empty [] h;simp only;repeat'(first|exact trivial|apply eS rfl|apply AB|refine rX b ?_ ?_|refine rC ?_ ?_<;>intro a<;>try(cases a;done))
 .refine⟨a,?_⟩;have:=Zu (o.take j);have P:=Ub j o;unfold L4 at this;dsimp only[Ty.den]at *;omega
 .exact eV
 .have v:j<o.length:=by exact eV
  have e:=L v;refine⟨⟨j+1,by omega⟩,by simp only;omega,AC [(16,.nm 16)] rfl rfl ?_ ?_⟩
  .exact eN
  simp only[e];exact eN
 have v:o.take j=o:=At (by exact eV);rw[v];exact fI b [.tmp 4] (by rw[h1];unfold L4;exact eR)
end
section
attribute [local go_sem] OZ JM dH
def FX (s:ByteArray) (o:List ByteArray) (x:AK):List ByteArray:=if (Ag x.2.1 s&&!Ag o x.1)=true then o++[x.1] else o
def Di (d:List AK):Nat->Nat->List ByteArray->List ByteArray
 | 0,_,o=>o
 | n+1,i,o=>if i<o.length then Di d n (i+1) (d.foldl (FX (o.getD i ByteArray.empty)) o) else o
def Dj (d:List AK) (s:ByteArray):List ByteArray:=if BI d s<0 then [] else L4 (Di d d.length 0 [s])
theorem Wo (s:ByteArray):∀(l:List AK) (k:Nat) (x:AK),x∈l->Ah x.1 s=true->0<=Ck s k l
 | y :: l,k,x,a,h=>by
  simp only[Ck];split
  .omega
  rename_i b;rcases By.1 a with rfl|a
  .exact absurd h b
  exact Wo s l (k+1) x a h
theorem FG {d:List AK} {x:AK} (a:x∈d):0<=BI d x.1:=Wo x.1 d 0 x a (FE _)
theorem A7b {d:List AK} {o:List ByteArray} (h:f5 d o) (s:ByteArray) {x:AK} (b:x∈d):f5 d (FX s o x):=by
 unfold FX;split
 .rename_i a;rw[An,TO]at a;have:=yL h (FG b);unfold L2 at this
  rwa [As (by rw[a.2];simp)]at this
 exact h
theorem Wp {d:List AK} (s:ByteArray):∀ {l:List AK} {o:List ByteArray},(∀x∈l,x∈d)->f5 d o->f5 d (l.foldl (FX s) o)/\o.length<=(l.foldl (FX s) o).length
 | [],o,_,h=>⟨h,Is _⟩
 | x :: l,o,a,h=>by
  obtain⟨b,c⟩:=Wp s (l:=l) (λy e=>a y (by simp[e])) (A7b h s (a x (by simp)));refine⟨b,Tp ?_ c⟩;unfold FX;split<;>simp
theorem Ro (s:ByteArray) {i:Nat}:∀ {l:List AK} {o:List ByteArray},i<o.length->(l.foldl (FX s) o).getD i ByteArray.empty=o.getD i ByteArray.empty
 | [],_,_=>rfl
 | x :: l,o,h=>by
  have a:i<(FX s o x).length/\(FX s o x).getD i ByteArray.empty=o.getD i ByteArray.empty:=by
   unfold FX;split
   .refine⟨by rw[A0];omega,?_⟩;simp only[AS];rw[Tz h]
   exact⟨h,rfl⟩
  rw[Tk,Ro s a.1,a.2]
def dQ:AZ:={ ins:=[Eo,T9],pre:=λ(d,_,_)=>List.length d<=256,out:=λ(d,s,_)=>[.p F4 (Dj d s)] }
attribute [local go_sem] dQ
theorem A3n:Ab Tryz.prog 200 dQ:=by
 refine fK [0,1,4,5,6,7,8,9,13,19,25,47,59] Tryz.func200 Tryz.ntmps200 (AE Lx (AE Gj (AE Rk AH))) ?_;rintro w0 O0 ⟨d,s,u⟩ b-y;have y:d.length<=256:=y;simp only[dQ,AM];repeat'(first|exact trivial|apply eS rfl|refine rX b ?_ ?_|refine rC ?_ ?_<;>intro a<;>try(cases a;done))
 .have h1:Dj d s=[]:=by unfold Dj;rw[BY a]
  exact fI b [.tmp 4] (by rw[h1];exact eR)
 have h1:Dj d s=L4 (Di d d.length 0 [s]):=by unfold Dj;rw[As (Yd.2 a)]
 have F:f5 d [s]:=⟨λx v=>by
  have:x=s:=by simpa using v
  rw[this];exact a,by simp⟩
 refine AJ (ι:={x:Nat×List ByteArray//x.1<=x.2.length/\f5 d x.2/\Di d (d.length-x.1) x.1 x.2=Di d d.length 0 [s]}) (λx=>⟨[(0,.p Eo d),(5,.sr 15 T9 0 x.1.2.length),(6,.p (.int .i64) (x.1.1:Int))],[(15,.arr 9 T9 x.1.2)]⟩) (λx=>d.length-x.1.1) ⟨(0,[s]),by simp,F,rfl⟩ (eW [(15,.nm 15)]) (λx=>?_)
 obtain⟨⟨i,o⟩,hi,q,r⟩:=x;simp only at hi q r;have P:=q.len;simp only;repeat'(first|exact trivial|apply eS rfl|refine rX b ?_ ?_|refine rC ?_ ?_<;>intro a<;>try(cases a;done))
 .have z:i<o.length:=by exact eV
  have B:Di d (d.length-(i+1)) (i+1) (d.foldl (FX (o.getD i ByteArray.empty)) o)=Di d d.length 0 [s]:=by
   rw[<-r];obtain⟨m,A⟩:∃m,d.length-i=m+1:=⟨d.length-i-1,by omega⟩;have G:d.length-(i+1)=m:=by omega
   rw[A,G];show _=if i<o.length then Di d m (i+1) (d.foldl (FX (o.getD i ByteArray.empty)) o) else o
   rw[BY z]
  refine AJ (ι:={k:Nat//k<=d.length}) (λk=>⟨[(0,.p Eo d),(5,.sr 15 T9 0 ((d.take k.1).foldl (FX (o.getD i ByteArray.empty)) o).length),(6,.p (.int .i64) (i:Int)),(7,.p (.int .i64) (k.1:Int))],[(15,.arr 9 T9 ((d.take k.1).foldl (FX (o.getD i ByteArray.empty)) o))]⟩) (λk=>d.length-k.1) ⟨0,IS _⟩ (AC [(15,.nm 15)] rfl rfl ?_ ?_) (λk=>?_)
  .refine eM ?_;rfl
  .refine eM ?_;rfl
  obtain⟨k,hk⟩:=k;have g:=Wp (o.getD i ByteArray.empty) (l:=d.take k) (o:=o) (λx v=>UN v) q;have N:=g.1.len;have E:=λh:k<d.length=>Ei (FX (o.getD i ByteArray.empty)) d d0 o h;have D:((d.take k).foldl (FX (o.getD i ByteArray.empty)) o).getD i ByteArray.empty=o.getD i ByteArray.empty:=Ro _ z;simp only;generalize C:(d.take k).foldl (FX (o.getD i ByteArray.empty)) o=f at *;repeat'(first|exact trivial|apply eS rfl|apply AB|refine rX b ?_ ?_|refine rC ?_ ?_<;>intro a<;>try(cases a;done))
  .have M:=g.2;refine⟨a,?_,λ_=>a⟩;dsimp only[Ty.den]at *;omega
  .refine⟨by assumption,?_⟩;simp only[AO];dsimp only[Ty.den]at *;omega
  .exact eV
  .have c:k<d.length:=by exact eV
   have e:=E c;rw[D]at a;have n:FX (o.getD i ByteArray.empty) f (d.getD k d0)=f++[(d.getD k d0).1]:=by
    unfold FX;rw[BY (by rw[An,TO];exact a)]
   rw[n]at e;refine⟨⟨k+1,by omega⟩,by simp only;omega,AC [(15,.nm 15)] rfl rfl ?_ ?_⟩
   .simp only[e];exact eN
   simp only[e];exact eN
  .exact eV
  .have c:k<d.length:=by exact eV
   have e:=E c;rw[D]at a;have n:FX (o.getD i ByteArray.empty) f (d.getD k d0)=f:=by
    unfold FX;rw[As];rw[An,TO];rintro⟨h1,w⟩;rw[a h1]at w;cases w
   rw[n]at e;refine⟨⟨k+1,by omega⟩,by simp only;omega,AC [(15,.nm 15)] rfl rfl ?_ ?_⟩
   .simp only[e];exact eN
   simp only[e];exact eN
  .exact eV
  have c:d.take k=d:=At (by exact eV);rw[c]at C;rw[C]at B;have I:=g.1;have O:=g.2;exact⟨⟨(i+1,f),by simp only;omega,I,B⟩,by simp only;omega,eW [(15,.nm 15)]⟩
 have H:o=Di d d.length 0 [s]:=by
  rw[<-r];cases A:d.length-i with
  | zero=>rfl
  | succ m =>
   show _=if i<o.length then _ else o
   rw[As (by exact eV)]
 rw[<-H]at h1;refine AJ (ι:={j:Nat//j<=o.length}) (λj=>⟨[(0,.p Eo d),(5,.sr 15 T9 0 o.length),(8,.p F4 ((o.take j.1).foldl D9 [])),(9,.p (.int .i64) (j.1:Int))],[(15,.arr 9 T9 o)]⟩) (λj=>o.length-j.1) ⟨0,IS _⟩ (AC [(15,.nm 15)] rfl rfl ?_ ?_) (λj=>?_)
 .exact eN
 .refine eM ?_;rfl
 obtain⟨j,L⟩:=j;have J:=λh:j<o.length=>Ei D9 o ByteArray.empty [] h;simp only;repeat'(first|exact trivial|apply eS rfl|apply AB|refine rX b ?_ ?_|refine rC ?_ ?_<;>intro a<;>try(cases a;done))
 .refine⟨a,?_⟩;have:=Zu (o.take j);have K:=Ub j o;unfold L4 at this;dsimp only[Ty.den]at *;omega
 .exact eV
 .have t:j<o.length:=by exact eV
  have e:=J t;refine⟨⟨j+1,by omega⟩,by simp only;omega,AC [(15,.nm 15)] rfl rfl ?_ ?_⟩
  .exact eN
  simp only[e];exact eN
 have t:o.take j=o:=At (by exact eV);rw[t];exact fI b [.tmp 4] (by rw[h1];unfold L4;exact eR)
end
section
attribute [local go_sem] OZ dH oL JM
def LI (d:List AK) (o:List ByteArray) (x:ByteArray):List ByteArray:=if 0<=BI d x then D9 o x else o
def Cd (d:List AK) (l:List ByteArray):List ByteArray:=l.foldl (LI d) []
theorem JO (d:List AK) (l:List ByteArray):(Cd d l).length<=l.length:=by
 have key:∀(l o:List ByteArray),(l.foldl (LI d) o).length<=o.length+l.length:=by
  intro l;induction l with
  | nil=>intro o;simp
  | cons x l a =>
   intro o;have h1:=a (LI d o x);have b:(LI d o x).length<=o.length+1:=by
    unfold LI;split
    .exact L1 o x
    omega
   simp only[Tk,OS];omega
 have:=key l [];simpa[Cd] using this
def Rp:AZ:={ ins:=[Eo,F4],pre:=λ(_,l,_)=>List.length l<=100000,out:=λ(d,l,_)=>[.p F4 (Cd d l)] }
attribute [local go_sem] Rp
theorem jA:Ab Tryz.prog 221 Rp:=by
 refine fK [0,1,4,5,6,10,19] Tryz.func221 Tryz.ntmps221 (AE Lx (AE Rk AH)) ?_;rintro w0 O0 ⟨d,l,u⟩ c-f;have f:l.length<=100000:=f;simp only[Rp,AM];repeat'(first|exact trivial|apply eS rfl|refine rX c ?_ ?_)
 refine AJ (ι:={k:Nat//k<=l.length}) (λk=>⟨[(0,.p Eo d),(1,.p F4 l),(5,.p F4 (Cd d (l.take k.1))),(6,.p (.int .i64) (k.1:Int))],[]⟩) (λk=>l.length-k.1) ⟨0,IS _⟩ (AC [] rfl rfl ?_ ?_) (λk=>?_)
 .exact eN
 .refine eM ?_;rfl
 obtain⟨k,hk⟩:=k;have hn:=JO d (l.take k);have g:=Ub k l;have hs:=λh:k<l.length=>Ei (LI d) l ByteArray.empty [] h;simp only;repeat'(first|exact trivial|apply eS rfl|apply AB|refine rX c ?_ ?_|refine rC ?_ ?_<;>intro b<;>try(cases b;done))
 .exact b
 .exact⟨by assumption,by omega⟩
 .exact eV
 .have a:k<l.length:=by exact eV
  have e:Cd d (l.take (k+1))=LI d (Cd d (l.take k)) (l.getD k ByteArray.empty):=hs a;unfold LI at e;rw[BY b]at e;refine⟨⟨k+1,by omega⟩,by simp only;omega,AC [] rfl rfl ?_ ?_⟩
  .exact eN
  simp only[e];exact eN
 .exact eV
 .have a:k<l.length:=by exact eV
  have e:Cd d (l.take (k+1))=LI d (Cd d (l.take k)) (l.getD k ByteArray.empty):=hs a;unfold LI at e;rw[As (ADm.2 b)]at e;refine⟨⟨k+1,by omega⟩,by simp only;omega,AC [] rfl rfl ?_ ?_⟩
  .exact eN
  simp only[e];exact eN
 have a:l.take k=l:=At (by exact eV);rw[a];exact fI c [.tmp 4]
def A3o (d:List AK) (all:List ByteArray) (i:Nat) (k:Nat):Bool:=(k:Int)==(i:Int)||!Ag (Oc d (all.getD i ByteArray.empty)) (all.getD k ByteArray.empty)
def Zw (d:List AK) (all:List ByteArray) (i n:Nat):Bool:=(List.range n).all (A3o d all i)
def Te (d:List AK) (all:List ByteArray) (n:Nat):List ByteArray:=((List.range n).filter λi=>Zw d all i all.length).map λi=>all.getD i ByteArray.empty
def B9 (d:List AK) (l:List ByteArray):List ByteArray:=Te d (Cd d l) (Cd d l).length
theorem A0O (d:List AK) (all:List ByteArray) (n:Nat):Te d all (n+1)=Te d all n++if Zw d all n all.length=true then [all.getD n ByteArray.empty] else []:=by
 unfold Te;rw[UQ,AA5,UH]
 congr 1
 rw[Ue,ADu];split<;>rfl
theorem jB (d:List AK) (all:List ByteArray) (n:Nat):(Te d all n).length<=n:=by
 unfold Te;rw[OF];exact Tp (Ul _ _) (by simp)
theorem oM (d:List AK) (all:List ByteArray) (i n:Nat):Zw d all i (n+1)=(Zw d all i n&&A3o d all i n):=by
 unfold Zw;rw[UQ,AD7];simp
def L5:AZ:={ ins:=[Eo,F4],pre:=λ(d,l,_)=>Wn d/\List.length d<=256/\List.length l<=100000,out:=λ(d,l,_)=>[.p F4 (B9 d l)] }
attribute [local go_sem] L5
theorem Wq:Ab Tryz.prog 206 L5:=by
 refine fK [0,1,4,5,6,7,8,9,10,17,29,47] Tryz.func206 Tryz.ntmps206 (AE jA (AE A3m (AE Gj AH))) ?_;rintro w0 O0 ⟨d,l,u⟩ c-⟨n,f,g⟩;have f:d.length<=256:=f;have g:l.length<=100000:=g;have m:B9 d l=Te d (Cd d l) (Cd d l).length:=rfl;have o:=JO d l;simp only[L5,AM];repeat'(first|exact trivial|apply eS rfl|refine rX c ?_ ?_)
 .exact g
 rw[m];generalize Cd d l=all at *;refine AJ (ι:={i:Nat//i<=all.length}) (λi=>⟨[(0,.p Eo d),(5,.sr 54 T9 0 (Te d all i.1).length),(6,.p F4 all),(7,.p (.int .i64) (i.1:Int))],[(54,.arr 9 T9 (Te d all i.1))]⟩) (λi=>all.length-i.1) ⟨0,IS _⟩ (AC [(54,.nil)] rfl rfl ?_ ?_) (λi=>?_)
 .refine eM ?_;rfl
 .refine eM ?_;rfl
 obtain⟨i,hi⟩:=i;have q:=jB d all i;have b:=A0O d all i;simp only;repeat'(first|exact trivial|apply eS rfl|refine rX c ?_ ?_|refine rC ?_ ?_<;>intro a<;>try(cases a;done))
 .exact⟨a,n,f⟩
 .have h:i<all.length:=by exact eV
  refine AJ (ι:={k:Nat//k<=all.length}) (λk=>⟨[(0,.p Eo d),(5,.sr 54 T9 0 (Te d all i).length),(6,.p F4 all),(7,.p (.int .i64) (i:Int)),(8,.p F4 (Oc d (all.getD i ByteArray.empty))),(9,.p .bool (Zw d all i k.1)),(10,.p (.int .i64) (k.1:Int))],[(54,.arr 9 T9 (Te d all i))]⟩) (λk=>all.length-k.1) ⟨0,IS _⟩ (AC [(54,.nm 54)] rfl rfl ?_ ?_) (λk=>?_)
  .exact eN
  .refine eM ?_;rfl
  obtain⟨k,hk⟩:=k;have j:=oM d all i k;simp only;repeat'(first|exact trivial|apply eS rfl|apply AB|refine rX c ?_ ?_|refine rC ?_ ?_<;>intro a<;>try(cases a;done))
  .exact λ_=>a
  .exact eV
  .have e:k<all.length:=by exact eV
   refine⟨⟨k+1,by omega⟩,by simp only;omega,AC [(54,.nm 54)] rfl rfl ?_ ?_⟩
   .exact eN
   simp only[j];unfold A3o;exact eN
  .refine⟨by assumption,?_⟩;simp only[AO];omega
  .exact eV
  .have e:k=all.length:=by exact eV
   subst e;rw[a,BY rfl]at b;refine⟨⟨i+1,by omega⟩,by simp only;omega,AC [(54,.nm 54)] rfl rfl ?_ ?_⟩
   .simp only[b];exact eN
   simp only[b];exact eN
  .exact eV
  have e:k=all.length:=by exact eV
  subst e;rw[a,As (by simp),UF]at b;refine⟨⟨i+1,by omega⟩,by simp only;omega,AC [(54,.nm 54)] rfl rfl ?_ ?_⟩
  .simp only[b];exact eN
  simp only[b];exact eN
 have h:i=all.length:=by exact eV
 subst h;refine E6 [54] ?_;exact fI c [.tmp 4]
end
section
attribute [local go_sem] Ki
def ofA (b:List Int) (x:Int):List Int:=b.set (x.tdiv 64).toNat (B2 .or .u64 (b.getD (x.tdiv 64).toNat 0) (TS .u64 1 (x.tmod 64)))
def ofL (l:List Int):List Int:=l.foldl ofA (List.replicate 64 0)
def okB (x:Int):Bool:=!(decide (x<0)||decide (4095<x))
def ofF (l:List Int):List Int×Int:=if l.all okB=true then (BO (ofL l),0) else ([],2)
theorem QQ (l:List Int):(ofL l).length=64:=by
 have key:∀(l b:List Int),(l.foldl ofA b).length=b.length:=by
  intro l;induction l with
  | nil=>intro b;rfl
  | cons x l a =>
   intro b;rw[Tk,a];simp[ofA]
 unfold ofL;rw[key];simp
def ofS:AZ:={ ins:=[FA],pre:=λ_=>True,out:=λ(l,_)=>[.p BM (ofF l).1,.p GK (ofF l).2] }
theorem ACT:Ab Tryz.prog 202 ofS:=by
 refine fK [0,2,3,4,5,10,24] Tryz.func202 Tryz.ntmps202 (AE M9 AH) ?_;rintro w0 O0 ⟨l,u⟩ c ⟨⟨g,-⟩,-⟩ -;simp only[AO]at g;simp only[ofS,AM];repeat'(first|exact trivial|apply eS rfl|refine rX c ?_ ?_)
 .simp only[AO];omega
 refine AJ (ι:={k:Nat//k<=l.length/\(l.take k).all okB=true}) (λk=>⟨[(0,.p FA l),(4,.sr 6 QM 0 (ofL (l.take k.1)).length),(5,.p (.int .i64) (k.1:Int))],[(6,.arr 186 QM (ofL (l.take k.1)))]⟩) (λk=>l.length-k.1) ⟨0,IS _,rfl⟩ (AC [(6,.nm 6)] rfl rfl ?_ ?_) (λk=>?_)
 .refine eM ?_;rfl
 .refine eM ?_;rfl
 obtain⟨k,hk,hf⟩:=k;have i:=QQ (l.take k);have hs:∀h:k<l.length,ofL (l.take (k+1))=ofA (ofL (l.take k)) (l.getD k 0):=λh=>Ei ofA l 0 _ h;simp only;repeat'(first|exact trivial|apply eS rfl|apply AB|refine rX c ?_ ?_|refine rC ?_ ?_<;>intro a<;>try(cases a;done))
 .exact⟨a,λ_=>a⟩
 .have b:k<l.length:=by exact eV
  have h1:ofF l=([],2):=by
   unfold ofF;rw[As];intro h;have:=ON.1 h _ (AF l 0 b);unfold okB at this;rw[TO,UX,Of,Of]at this;rcases a with h|h
   .exact this.1 h
   exact this.2 h
  exact fI c [.tmp 2,.tmp 3] (by rw[h1];exact eR)
 .obtain⟨h0,h1⟩:=a;have d:Int.tdiv (l.getD k 0) 64=l.getD k 0 / 64:=Uc h0;have f:Int.tmod (l.getD k 0) 64=l.getD k 0 % 64:=aS h0;rw[d,f,i];refine⟨?_,⟨by decide,?_,?_⟩,?_,⟨by decide,?_,?_⟩,⟨?_,?_⟩,?_,⟨by decide,?_,?_⟩,⟨?_,?_⟩,?_,?_,?_⟩<;>exact eV
 .exact eV
 .have b:k<l.length:=by exact eV
  have e:=hs b;refine⟨⟨k+1,by omega,?_⟩,by simp only;omega,AC [(6,.nm 6)] rfl rfl ?_ ?_⟩
  .rw[Jq l 0 _ b,hf,AEh];unfold okB;rw[TO,UX,Of,Of];exact⟨Yd.2 a.1,Yd.2 a.2⟩
  .simp only[e];refine eM ?_;rfl
  simp only[e];refine eM ?_;rw[<-e,QQ,QQ]
 have b:l.take k=l:=At (by exact eV);rw[b]at hf ⊢;have h1:ofF l=(BO (ofL l),0):=by unfold ofF;rw[BY hf]
 have j:=QQ l;refine E6 [6] ?_;repeat'(first|apply eS rfl|refine rX c ?_ ?_)
 .rw[j];decide
 exact fI c [.tmp 2,.tmp 3] (by rw[h1];exact eR)
end
section
attribute [local go_sem] Wm QN
def oO (l:List (List Int)) (b:List Int):Bool:=l.any λx=>Jp x b
def A9r:AZ:={ ins:=[Ta,BM],pre:=λ_=>True,out:=λ(l,b,_)=>[.p .bool (oO l b)],lend:=true }
theorem A9s:Ab Tryz.prog 203 A9r:=by
 refine fK [0,1,4,5,9,17] Tryz.func203 Tryz.ntmps203 (AE yK AH) ?_;rintro w0 O0 ⟨l,n,u⟩ a ⟨⟨e,-⟩,-⟩ -;simp only[AO]at e;simp only[A9r,AM];repeat'(first|exact trivial|apply eS rfl|refine rX a ?_ ?_)
 refine AJ (ι:={k:Nat//k<=l.length/\(l.take k).any (λx=>Jp x n)=false}) (λk=>⟨[(0,.p Ta l),(1,.p BM n),(5,.p (.int .i64) (k.1:Int))],[]⟩) (λk=>l.length-k.1) ⟨0,by simp⟩ (eW []) (λk=>?_)
 obtain⟨k,hk,c⟩:=k;repeat'(first|exact trivial|apply eS rfl|apply AB|refine rX a ?_ ?_|refine rC ?_ ?_<;>intro b<;>try(cases b;done))
 .exact eV
 .have d:k<l.length:=by exact eV
  have h1:oO l n=true:=Iu l [] _ d b;exact fI a [.tmp 4] (by rw[h1];exact eR)
 .exact eV
 .have d:k<l.length:=by exact eV
  refine⟨⟨k+1,by exact eV,?_⟩,by simp only;exact eV,AC [] rfl rfl ?_ ?_⟩
  .rw[M8 l [] _ d,c];exact b
  .exact eN
  exact eN
 have hk:l.take k=l:=At (by exact eV);rw[hk]at c;have h1:oO l n=false:=c;exact fI a [.tmp 4] (by rw[h1];exact eR)
abbrev AQ:=ByteArray×List Int
abbrev c0:AQ:=(ByteArray.empty,[])
def Nv (l:List AQ) (i j:Int):Bool:=Eh (l.getD j.toNat c0).2 (l.getD i.toNat c0).2
def yM:AZ:={ ins:=[Jo,T3,T3],pre:=λ(l,i,j,_)=>((0:Int)<=i/\i<(List.length l:Int))/\((0:Int)<=j/\j<(List.length l:Int))/\(∀x∈(l:List AQ),x.2.length<=100000),out:=λ(l,i,j,_)=>[.p .bool (Nv l i j)],lend:=true }
theorem yN:Ab Tryz.prog 166 yM:=by
 refine fK [0,1,2,6] Tryz.func166 Tryz.ntmps166 (AE Rm AH) ?_;rintro w0 O0 ⟨l,i,j,u⟩ a-⟨hi,b,c⟩;simp only[yM,AM];repeat'(first|exact trivial|apply eS rfl|refine rX a ?_ ?_)
 .exact⟨b,hi,c _ (AF (l:List AQ) c0 (by exact eV))⟩
 exact fI a [.tmp 6] (by unfold Nv;exact eR)
end
section
attribute [local go_sem] Wm
def Rq (s:ByteArray):Nat->List AQ->Int
 | _,[]=>-1
 | k,x :: l=>if Ah x.1 s=true then (k:Int) else Rq s (k+1) l
def DP (l:List AQ) (s:ByteArray):Int:=Rq s 0 l
theorem Zx (s:ByteArray) (l:List AQ) {k:Nat} (h:k<l.length):Rq s k (l.drop k)=if Ah (l.getD k c0).1 s=true then (k:Int) else Rq s (k+1) (l.drop (k+1)):=by
 rw[Tj h];have e:l.getD k c0=l[k]:=by simp[AS,h]
 rw[e];rfl
def VQ:AZ:={ ins:=[Jo,T9],pre:=λ_=>True,out:=λ(l,s,_)=>[.p T3 (DP l s)],lend:=true }
theorem Zy:Ab Tryz.prog 168 VQ:=by
 refine fK [0,1,4,5,9,18] Tryz.func168 Tryz.ntmps168 AH ?_;rintro w0 O0 ⟨l,s,u⟩ c ⟨⟨d,-⟩,-⟩ -;simp only[AO]at d;simp only[VQ,AM];repeat'(first|exact trivial|apply eS rfl|refine rX c ?_ ?_)
 refine AJ (ι:={k:Nat//k<=l.length/\Rq s k (l.drop k)=DP l s}) (λk=>⟨[(0,.p Jo l),(1,.p T9 s),(5,.p (.int .i64) (k.1:Int))],[]⟩) (λk=>l.length-k.1) ⟨0,IS _,rfl⟩ (eW []) (λk=>?_)
 obtain⟨k,hk,hf⟩:=k;simp only;repeat'(first|exact trivial|apply eS rfl|apply AB|refine rX c ?_ ?_|refine rC ?_ ?_<;>intro b<;>try(cases b;done))
 .exact b
 .have a:k<l.length:=by exact eV
  rw[Zx s l a,BY b]at hf;exact fI c [.tmp 4] (by rw[<-hf];exact eR)
 .exact eV
 .have a:k<l.length:=by exact eV
  rw[Zx s l a,As (by rw[b];simp)]at hf;exact⟨⟨k+1,by omega,hf⟩,by simp only;omega,eW []⟩
 have a:l.drop k=[]:=On (by exact eV);rw[a]at hf;exact fI c [.tmp 4] (by rw[<-hf];first|exact eR|refine Wf ?_;rfl)
end
section
attribute [local go_sem] Wm Ki
def Wr (s:List Int):Nat->List AQ->Int
 | _,[]=>-1
 | k,x :: l=>if Jp x.2 s=true then (k:Int) else Wr s (k+1) l
def dR (l:List AQ) (b:List Int):Int:=Wr (BO b) 0 l
theorem Ws (s:List Int) (l:List AQ) {k:Nat} (h:k<l.length):Wr s k (l.drop k)=if Jp (l.getD k c0).2 s=true then (k:Int) else Wr s (k+1) (l.drop (k+1)):=by
 rw[Tj h];have e:l.getD k c0=l[k]:=by simp[AS,h]
 rw[e];rfl
def oP:AZ:={ ins:=[Jo,BM],pre:=λ(_,b,_)=>List.length b<=100000,out:=λ(l,b,_)=>[.p T3 (dR l b)],lend:=true }
theorem A3p:Ab Tryz.prog 159 oP:=by
 refine fK [0,1,4,5,6,12,21] Tryz.func159 Tryz.ntmps159 (AE M9 (AE yK AH)) ?_;rintro w0 O0 ⟨l,b,u⟩ d ⟨⟨g,-⟩,-⟩ e;simp only[AO]at g;simp only[oP,AM];repeat'(first|exact trivial|apply eS rfl|refine rX d ?_ ?_)
 .exact e
 have f:dR l b=Wr (BO b) 0 l:=rfl;rw[f];generalize BO b=s at *;refine AJ (ι:={k:Nat//k<=l.length/\Wr s k (l.drop k)=Wr s 0 l}) (λk=>⟨[(0,.p Jo l),(5,.p BM s),(6,.p (.int .i64) (k.1:Int))],[]⟩) (λk=>l.length-k.1) ⟨0,IS _,rfl⟩ (eW []) (λk=>?_)
 obtain⟨k,hk,hf⟩:=k;simp only;repeat'(first|exact trivial|apply eS rfl|apply AB|refine rX d ?_ ?_|refine rC ?_ ?_<;>intro c<;>try(cases c;done))
 .exact c
 .have a:k<l.length:=by exact eV
  rw[Ws s l a,BY c]at hf;exact fI d [.tmp 4] (by rw[<-hf];exact eR)
 .exact eV
 .have a:k<l.length:=by exact eV
  rw[Ws s l a,As (by rw[c];simp)]at hf;exact⟨⟨k+1,by omega,hf⟩,by simp only;omega,eW []⟩
 have a:l.drop k=[]:=On (by exact eV);rw[a]at hf;exact fI d [.tmp 4] (by rw[<-hf];first|exact eR|refine Wf ?_;rfl)
end
section
attribute [local go_sem] Wm
def jC (s:ByteArray):List (ByteArray×ByteArray)->ByteArray×Bool
 | []=>(ByteArray.empty,false)
 | x :: l=>if Ah x.1 s=true then (x.2,true) else jC s l
def GN (x:AK) (s:ByteArray):ByteArray×Bool:=jC s x.2.2
theorem Zz (s:ByteArray) (l:List (ByteArray×ByteArray)) {k:Nat} (h:k<l.length):jC s (l.drop k)=if Ah (l.getD k (ByteArray.empty,ByteArray.empty)).1 s=true then ((l.getD k (ByteArray.empty,ByteArray.empty)).2,true) else jC s (l.drop (k+1)):=by
 rw[Tj h];have e:l.getD k (ByteArray.empty,ByteArray.empty)=l[k]:=by simp[AS,h]
 rw[e];rfl
def dS:AZ:={ ins:=[A0E,T9],pre:=λ_=>True,out:=λ(x,s,_)=>[.p T9 (GN x s).1,.p .bool (GN x s).2],lend:=true }
theorem jD:Ab Tryz.prog 195 dS:=by
 refine fK [0,1,2,4,5,6,11,21] Tryz.func195 Tryz.ntmps195 AH ?_;rintro w0 O0 ⟨⟨nm,sup,a⟩,s,u⟩ d ⟨⟨-,-,f,-⟩,-⟩ -;simp only[AO]at f;simp only[dS,AM];repeat'(first|exact trivial|apply eS rfl|refine rX d ?_ ?_)
 have e:({ data:=#[] }:ByteArray).size<=AO:=by decide
 rw[BY e];refine AJ (ι:={k:Nat//k<=a.length/\jC s (a.drop k)=GN (nm,sup,a) s}) (λk=>⟨[(1,.p T9 s),(2,.bp 2 [] 0),(6,.p (.int .i64) (k.1:Int))],[(2,.box 158 true [.p T9 nm,.p F4 sup,.p iW a])]⟩) (λk=>a.length-k.1) ⟨0,IS _,rfl⟩ (eW [(2,.nm 2)]) (λk=>?_)
 obtain⟨k,hk,hf⟩:=k;simp only;repeat'(first|exact trivial|apply eS rfl|apply AB|refine rX d ?_ ?_|refine rC ?_ ?_<;>intro c<;>try(cases c;done))
 .exact c
 .assumption
 .have b:k<a.length:=by exact eV
  rw[Zz s a b,BY c]at hf;exact fI d [.tmp 4,.tmp 5] (by rw[<-hf];exact eR)
 .exact eV
 .have b:k<a.length:=by exact eV
  rw[Zz s a b,As (by rw[c];simp)]at hf;exact⟨⟨k+1,by omega,hf⟩,by simp only;omega,eW [(2,.nm 2)]⟩
 have b:a.drop k=[]:=On (by exact eV);rw[b]at hf;rw[BY e];exact fI d [.tmp 4,.tmp 5] (by rw[<-hf];first|exact eR|refine Wf ?_;exact⟨rfl,rfl⟩)
end
section
attribute [local go_sem] oK
def Fl (a b:AQ):Bool:=decide (((H5 b.2).length:Int)<((H5 a.2).length:Int))||((H5 a.2).length:Int)==((H5 b.2).length:Int)&&G8 a.1 b.1
def dT:AZ:={ ins:=[dG,dG],pre:=λ(a,b,_)=>List.length (a:AQ).2<=100000/\List.length (b:AQ).2<=100000,out:=λ(a,b,_)=>[.p .bool (Fl a b)],lend:=true }
theorem A0Q:Ab Tryz.prog 165 dT:=by
 refine fK [0,1,2,3,4,5,6] Tryz.func165 Tryz.ntmps165 (AE A3i AH) ?_;rintro w0 O0 ⟨⟨c,ac⟩,⟨e,d⟩,u⟩ a-⟨ha,b⟩;simp only[dT,AM];repeat'(first|exact trivial|apply eS rfl|refine rX a ?_ ?_)
 .exact ha
 .exact b
 exact fI a [.tmp 4] (by unfold Fl;exact eR)
end
section
attribute [local go_sem] dQ JM ofS
def Od (low all:List ByteArray) (n:Nat):List Int:=((List.range n).filter λ(i:Nat)=>Ag low (all.getD i ByteArray.empty)).map λ(i:Nat)=>(i:Int)
theorem A0R (low all:List ByteArray) (n:Nat):Od low all (n+1)=Od low all n++if Ag low (all.getD n ByteArray.empty)=true then [(n:Int)] else []:=by
 unfold Od;rw[UQ,AA5,UH]
 congr 1
 rw[Ue,ADu];split<;>rfl
theorem A3q (low all:List ByteArray) (n:Nat):(Od low all n).length<=n:=by
 unfold Od;rw[OF];exact Tp (Ul _ _) (by simp)
def HC (d:List AK) (all:List ByteArray) (s:ByteArray):List Int:=(ofF (Od (Dj d s) all all.length)).1
def A3r:AZ:={ ins:=[Eo,F4,T9],pre:=λ(d,l,_,_)=>List.length d<=256/\List.length l<=100000,out:=λ(d,l,s,_)=>[.p BM (HC d l s)] }
theorem A7d:Ab Tryz.prog 162 A3r:=by
 refine fK [0,1,2,6,7,8,9,10,18,26] Tryz.func162 Tryz.ntmps162 (AE A3n (AE Gj (AE ACT AH))) ?_;rintro w0 O0 ⟨d,l,s,u⟩ b-⟨g,e⟩;have e:l.length<=100000:=e;have f:HC d l s=(ofF (Od (Dj d s) l l.length)).1:=rfl;simp only[A3r,AM];repeat'(first|exact trivial|apply eS rfl|refine rX b ?_ ?_)
 .exact g
 rw[f];generalize Dj d s=low at *;refine AJ (ι:={n:Nat//n<=l.length}) (λn=>⟨[(0,.p Eo d),(1,.p F4 l),(2,.p T9 s),(7,.p F4 low),(8,.sr 30 T3 0 (Od low l n.1).length),(9,.p (.int .i64) (n.1:Int))],[(30,.arr 3 T3 (Od low l n.1))]⟩) (λn=>l.length-n.1) ⟨0,IS _⟩ (AC [(30,.nil)] rfl rfl ?_ ?_) (λn=>?_)
 .refine eM ?_;rfl
 .refine eM ?_;rfl
 obtain⟨n,hn⟩:=n;have h:=A3q low l n;have hs:=A0R low l n;simp only;repeat'(first|exact trivial|apply eS rfl|apply AB|refine rX b ?_ ?_|refine rC ?_ ?_<;>intro a<;>try(cases a;done))
 .exact a
 .rw[a,BY rfl]at hs;simp only[AO];dsimp only[Ty.den]at *;omega
 .exact eV
 .have c:n<l.length:=by exact eV
  rw[a,BY rfl]at hs;refine⟨⟨n+1,by omega⟩,by simp only;omega,AC [(30,.nm 30)] rfl rfl ?_ ?_⟩
  .simp only[hs];exact eN
  simp only[hs];exact eN
 .exact eV
 .have c:n<l.length:=by exact eV
  rw[a,As (by simp),UF]at hs;refine⟨⟨n+1,by omega⟩,by simp only;omega,AC [(30,.nm 30)] rfl rfl ?_ ?_⟩
  .simp only[hs];exact eN
  simp only[hs];exact eN
 have c:n=l.length:=by exact eV
 subst c;refine E6 [30] ?_;repeat'(first|exact trivial|apply eS rfl|refine rX b ?_ ?_)
 exact fI b [.tmp 6]
end
section
attribute [local go_sem] dH
def QR (o:List ByteArray) (f:ByteArray×ByteArray):List ByteArray:=D9 o f.1
def Rr (o:List ByteArray) (x:AK):List ByteArray:=x.2.2.foldl QR o
def Dk (d:List AK):List ByteArray:=d.foldl Rr []
theorem Z0 (l:List (ByteArray×ByteArray)):∀o:List ByteArray,(l.foldl QR o).length<=o.length+l.length:=by
 induction l with
 | nil=>intro o;simp
 | cons x l a =>
  intro o;have h1:=a (QR o x);have b:(QR o x).length<=o.length+1:=L1 o x.1;simp only[Tk,OS];omega
theorem oQ {d:List AK} (h:∀x∈d,x.2.2.length<=256):∀(l:List AK),(∀x∈l,x∈d)->∀o:List ByteArray,(l.foldl Rr o).length<=o.length+256*l.length:=by
 intro l;induction l with
 | nil=>intro _ o;simp
 | cons x l c =>
  intro a o;have h1:=c (λy b=>a y (by simp[b])) (Rr o x);have e:=Z0 x.2.2 o;have f:=h x (a x (by simp));have g:(Rr o x).length=(x.2.2.foldl QR o).length:=rfl;simp only[Tk,OS];omega
def Wu:AZ:={ ins:=[Eo],pre:=λ(d,_)=>List.length d<=256/\(∀x∈(d:List AK),x.2.2.length<=256),out:=λ(d,_)=>[.p F4 (Dk d)] }
theorem Wv:Ab Tryz.prog 157 Wu:=by
 refine fK [0,2,3,4,5,9,19] Tryz.func157 Tryz.ntmps157 (AE Rk AH) ?_;rintro w0 O0 ⟨d,u⟩ c-⟨f,m⟩;have f:d.length<=256:=f;simp only[Wu,AM];repeat'(first|exact trivial|apply eS rfl|refine rX c ?_ ?_)
 refine AJ (ι:={i:Nat//i<=d.length}) (λi=>⟨[(0,.p Eo d),(3,.p F4 (Dk (d.take i.1))),(4,.p (.int .i64) (i.1:Int))],[]⟩) (λi=>d.length-i.1) ⟨0,IS _⟩ (AC [] rfl rfl ?_ ?_) (λi=>?_)
 .exact eN
 .refine eM ?_;rfl
 obtain⟨i,hi⟩:=i;have l:=oQ m (d.take i) (λx h=>UN h) [];have t:=Ub i d;have hs:=λh:i<d.length=>Ei Rr d d0 [] h;have g:∀e,Dk e=e.foldl Rr []:=λ_=>rfl;simp only;repeat'(first|exact trivial|apply eS rfl|refine rX c ?_ ?_|refine rC ?_ ?_<;>intro a<;>try(cases a;done))
 .have j:i<d.length:=by exact eV
  have v:=m _ (AF d d0 j);have hs:=hs j;rw[<-g,<-g]at hs;rw[<-g]at l;generalize Dk (d.take i)=o at *;refine AJ (ι:={k:Nat//k<=(d.getD i d0).2.2.length}) (λk=>⟨[(0,.p Eo d),(3,.p F4 (((d.getD i d0).2.2.take k.1).foldl QR o)),(4,.p (.int .i64) (i:Int)),(5,.p (.int .i64) (k.1:Int))],[]⟩) (λk=>(d.getD i d0).2.2.length-k.1) ⟨0,IS _⟩ (AC [] rfl rfl ?_ ?_) (λk=>?_)
  .exact eN
  .refine eM ?_;rfl
  obtain⟨k,hk⟩:=k;have r:k<=(d.getD i d0).2.2.length:=hk;have q:=Z0 ((d.getD i d0).2.2.take k) o;have s:=Ub k (d.getD i d0).2.2;have n:=λh:k<(d.getD i d0).2.2.length=>Ei QR (d.getD i d0).2.2 (ByteArray.empty,ByteArray.empty) o h;simp only;repeat'(first|apply eS rfl|apply AB|refine rX c ?_ ?_|refine rC ?_ ?_<;>intro a<;>try(cases a;done))
  .assumption
  .refine⟨by assumption,a,?_⟩;simp only[Ug]at l;dsimp only[Ty.den]at *;omega
  .have h1:(k:Int)<((d.getD i d0).2.2.length:Int):=a;exact eV
  .have b:k<(d.getD i d0).2.2.length:=Do.1 a;have e:=n b;refine⟨⟨k+1,b⟩,by simp only;omega,AC [] rfl rfl ?_ ?_⟩
   .exact eN
   simp only[e];unfold QR;exact eN
  .have:=f;exact eV
  have b:(d.getD i d0).2.2.take k=(d.getD i d0).2.2:=At (Tn.1 a);have e:Dk (d.take (i+1))=((d.getD i d0).2.2.take k).foldl QR o:=by rw[b];exact hs
  refine⟨⟨i+1,j⟩,by simp only;omega,AC [] rfl rfl ?_ ?_⟩
  .exact eN
  simp only[e];exact eN
 have b:d.take i=d:=At (by exact eV);rw[b];exact fI c [.tmp 2]
end
theorem Z1 {d:List AK} {l:List ByteArray}:∀ {r:List ByteArray} {k:Nat},Td d l k r=0->∀s∈r,0<=BI d s
 | [],_,_,s,hs=>by cases hs
 | x :: r,k,h,s,hs=>by
  simp only[Td]at h;split at h
  .cases h
  rename_i h1;split at h
  .cases h
  rcases By.1 hs with rfl|hs
  .omega
  exact Z1 h s hs
theorem QT {d:List AK}:∀ {l:List AK},Kj d l=0->∀x∈l,∀s∈x.2.1,0<=BI d s
 | [],_,x,a=>by cases a
 | y :: l,h,x,a=>by
  simp only[Kj]at h;split at h
  .rename_i h1;exact absurd h h1
  rename_i h1;rcases By.1 a with rfl|a
  .exact Z1 (IN h1)
  exact QT h x a
theorem A3s {d:List AK} (h:Kk d=0):Wn d:=QT h
theorem BD {d:List AK} (h:BU d=0):Wn d/\d.length<=256/\H8 d=1/\Dh d=0/\d.length<=(Bi d).length:=by
 unfold BU at h;split at h
 .rename_i h1;exact absurd h h1
 rename_i h1;split at h
 .rename_i a;exact absurd h a
 rename_i a;split at h
 .rename_i b;exact absurd h b
 rename_i b;split at h
 .cases h
 rename_i c;split at h
 .cases h
 rename_i e;exact⟨A3s (IN b),S0 (IN h1),IN c,IN a,by omega⟩
section
attribute [local go_sem] A9r A3e
def Gw (l:List (List Int)) (i k:Nat):List (List Int) :=
 if (decide (0<((GM (l.getD i []) (l.getD k [])).length:Int))&&!oO l (GM (l.getD i []) (l.getD k [])))=true then l++[GM (l.getD i []) (l.getD k [])] else l
def Gx (i:Nat):Nat->Nat->List (List Int)->List (List Int)
 | 0,_,l=>l
 | n+1,k,l=>if l.length<=256 then Gx i n (k+1) (Gw l i k) else l
def JP:Nat->Nat->List (List Int)->List (List Int)
 | 0,_,l=>l
 | n+1,i,l=>if i<l.length/\l.length<=256 then JP n (i+1) (Gx i i 0 l) else l
def A8 (c:List (List Int)):List (List Int):=JP 257 0 c
theorem jE (a b:List Int):(GM a b).length<=a.length:=by
 unfold GM BO;have:=EV .and a b a.length;rw[OR];omega
structure A8E (l:List (List Int)):Prop where
 len:l.length<=257
 wid:∀c∈l,c.length<=64
theorem L6 {l:List (List Int)} (h:∀c∈l,c.length<=64) (k:Nat):(l.getD k []).length<=64:=by
 rw[AS];cases hh:l[k]? with
 | none=>simp
 | some x=>exact h x (UW hh)
theorem jF {l:List (List Int)} (h:∀c∈l,c.length<=64) (i k:Nat):∀c∈Gw l i k,c.length<=64:=by
 unfold Gw;split
 .intro c a;rcases IF.1 a with a|a
  .exact h c a
  have:c=GM (l.getD i []) (l.getD k []):=by simpa using a
  rw[this];exact Tp (jE _ _) (L6 h i)
 exact h
theorem A3t (l:List (List Int)) (i k:Nat):l.length<=(Gw l i k).length/\(Gw l i k).length<=l.length+1:=by
 unfold Gw;split
 .simp
 exact⟨Is _,Nat.le_succ _⟩
def dU:AZ:={ ins:=[Ta],pre:=λ(c,_)=>List.length c<=256/\∀x∈(c:List (List Int)),x.length<=64,out:=λ(c,_)=>[.p Ta (A8 c)] }
theorem A0S:Ab Tryz.prog 163 dU:=by
 refine fK [0,2,3,4,5,6,18,28,48] Tryz.func163 Tryz.ntmps163 (AE A3f (AE A9s AH)) ?_;rintro w0 O0 ⟨c,u⟩ d-⟨n,t⟩;have n:c.length<=256:=n;simp only[dU,AM];repeat'(first|exact trivial|apply eS rfl|refine rX d ?_ ?_)
 .simp only[AO];dsimp only[Ty.den]at *;omega
 refine AJ (ι:={x:Nat×List (List Int)//x.1<=256/\A8E x.2/\JP (257-x.1) x.1 x.2=A8 c}) (λx=>⟨[(3,.sr 7 BM 0 x.1.2.length),(4,.p (.int .i64) (x.1.1:Int))],[(7,.arr 140 BM x.1.2)]⟩) (λx=>257-x.1.1) ⟨(0,c),by simp,⟨by simp only;omega,t⟩,rfl⟩ (eW [(7,.nm 7)]) (λx=>?_)
 obtain⟨⟨i,l⟩,hi,⟨q,s⟩,f⟩:=x;simp only at hi q s f;simp only;repeat'(first|exact trivial|apply eS rfl|refine rX d ?_ ?_|refine rC ?_ ?_<;>intro a<;>try(cases a;done))
 .have w:i<l.length:=by omega
  have z:l.length<=256:=by omega
  have o:JP (256-i) (i+1) (Gx i i 0 l)=A8 c:=by
   have e:257-i=(256-i)+1:=by omega
   rw[<-f,e];show _=if i<l.length/\l.length<=256 then JP (256-i) (i+1) (Gx i i 0 l) else l
   rw[BY ⟨w,z⟩]
  refine AJ (ι:={y:Nat×List (List Int)//y.1<=i/\A8E y.2/\l.length<=y.2.length/\Gx i (i-y.1) y.1 y.2=Gx i i 0 l}) (λy=>⟨[(3,.sr 7 BM 0 y.1.2.length),(4,.p (.int .i64) (i:Int)),(5,.p (.int .i64) (y.1.1:Int))],[(7,.arr 140 BM y.1.2)]⟩) (λy=>i-y.1.1) ⟨(0,l),by simp,⟨q,s⟩,Is _,rfl⟩ (eW [(7,.nm 7)]) (λy=>?_)
  obtain⟨⟨k,m⟩,hk,⟨g,b⟩,r,hf⟩:=y;simp only at hk g b r hf;simp only;repeat'(first|exact trivial|apply eS rfl|apply AB|refine rX d ?_ ?_|refine rC ?_ ?_<;>intro a<;>try(cases a;done))
  .exact⟨by exact eV,by exact eV,Tp (L6 b i) (by decide)⟩
  .simp only[AO];omega
  .omega
  .have e:Gw m i k=m++[GM (m.getD i []) (m.getD k [])]:=by
    unfold Gw;rw[BY];rw[An,DO,TO];exact a
   have C:=jF b i k;have D:=A3t m i k;refine⟨⟨(k+1,Gw m i k),by simp only;omega,⟨by simp only;omega,C⟩,by simp only;omega,?_⟩,by simp only;omega,AC [(7,.nm 7)] rfl rfl ?_ ?_⟩
   .simp only;rw[<-hf,show i-k=(i-(k+1))+1 by omega];show _=if m.length<=256 then Gx i (i-(k+1)) (k+1) (Gw m i k) else m
    rw[BY (by omega)]
   .simp only[e];exact eN
   simp only[e];exact eN
  .omega
  .have e:Gw m i k=m:=by
    unfold Gw;rw[As];rw[An,DO,TO];intro h;rw[a h.1]at h;exact absurd h.2 (by simp)
   refine⟨⟨(k+1,m),by simp only;omega,⟨g,b⟩,r,?_⟩,by simp only;omega,AC [(7,.nm 7)] rfl rfl ?_ ?_⟩
   .simp only;rw[<-hf,show i-k=(i-(k+1))+1 by omega];show _=if m.length<=256 then Gx i (i-(k+1)) (k+1) (Gw m i k) else m
    rw[BY (by omega),e]
   .exact eN
   exact eN
  .omega
  have B:m=Gx i i 0 l:=by
   rw[<-hf];cases A:i-k with
   | zero=>rfl
   | succ j =>
    show _=if m.length<=256 then _ else m
    rw[As (by omega)]
  rw[<-B]at o;refine⟨⟨(i+1,m),by simp only;omega,⟨g,b⟩,?_⟩,by simp only;omega,AC [(7,.nm 7)] rfl rfl ?_ ?_⟩
  .simp only;rw[show 257-(i+1)=256-i by omega];exact o
  .exact eN
  exact eN
 have v:l=A8 c:=by
  rw[<-f];cases A:257-i with
  | zero=>rfl
  | succ m =>
   show _=if i<l.length/\l.length<=256 then _ else l
   rw[As (by omega)]
 rw[<-v];refine E6 [7] ?_;exact fI d [.tmp 2]
theorem cs0 {α:Type} (x y:α):(if ({ data:=#[] }:ByteArray).size<=AO then x else y)=x:=BY (by show 0<=AO;decide)
theorem cs1 {α:Type} (a:UInt8) (x y:α):(if ({ data:=#[a] }:ByteArray).size<=AO then x else y)=x:=BY (by show 1<=AO;decide)
theorem cs2 {α:Type} (a b:UInt8) (x y:α):(if ({ data:=#[a,b] }:ByteArray).size<=AO then x else y)=x:=BY (by show 2<=AO;decide)
theorem cs3 {α:Type} (a b c:UInt8) (x y:α):(if ({ data:=#[a,b,c] }:ByteArray).size<=AO then x else y)=x:=BY (by show 3<=AO;decide)
theorem cs4 {α:Type} (a b c d:UInt8) (x y:α):(if ({ data:=#[a,b,c,d] }:ByteArray).size<=AO then x else y)=x:=BY (by show 4<=AO;decide)
theorem cs5 {α:Type} (a b c d e:UInt8) (x y:α):(if ({ data:=#[a,b,c,d,e] }:ByteArray).size<=AO then x else y)=x:=BY (by show 5<=AO;decide)
theorem cs6 {α:Type} (a b c d e f:UInt8) (x y:α):(if ({ data:=#[a,b,c,d,e,f] }:ByteArray).size<=AO then x else y)=x:=BY (by show 6<=AO;decide)
theorem cs7 {α:Type} (a b c d e f g:UInt8) (x y:α):(if ({ data:=#[a,b,c,d,e,f,g] }:ByteArray).size<=AO then x else y)=x:=BY (by show 7<=AO;decide)
theorem cs8 {α:Type} (a b c d e f g h:UInt8) (x y:α):(if ({ data:=#[a,b,c,d,e,f,g,h] }:ByteArray).size<=AO then x else y)=x:=BY (by show 8<=AO;decide)
end
def BW (b:List Int) (i:Nat):Bool:=(b.getD (i / 64) 0).toNat.testBit (i % 64)
def U64 (x:Int):Prop:=0<=x/\x<18446744073709551616
theorem FP {x:Int} (h:U64 x):(BitVec.ofInt 64 x).toNat=x.toNat:=by
 rw[BitVec.toNat_ofInt];have h1:=h.1;have a:=h.2;rw[Int.emod_eq_of_lt h1 (by simpa using a)]
theorem QU {n:Nat} (h:n<18446744073709551616):IntKind.u64.wrap (n:Int)=n:=KT (by rw[Io];omega)
theorem A7g {x y:Int} (a:U64 x) (b:U64 y):B2 .or .u64 x y=((x.toNat ||| y.toNat:Nat):Int):=by
 have h1:(BitVec.ofInt IntKind.u64.bits x ||| BitVec.ofInt IntKind.u64.bits y).toNat=x.toNat ||| y.toNat:=by
  rw[BitVec.toNat_or];show (BitVec.ofInt 64 x).toNat ||| (BitVec.ofInt 64 y).toNat=_
  rw[FP a,FP b]
 unfold B2;simp only;rw[h1];have e:(18446744073709551616:Nat)=2 ^ 64:=by decide
 refine QU ?_;rw[e];refine Nat.or_lt_two_pow ?_ ?_
 .have:=a.2;have:=a.1;omega
 have:=b.2;have:=b.1;omega
theorem H9 {x y:Int} (a:U64 x) (b:U64 y):B2 .and .u64 x y=((x.toNat &&& y.toNat:Nat):Int):=by
 have h1:(BitVec.ofInt IntKind.u64.bits x &&& BitVec.ofInt IntKind.u64.bits y).toNat=x.toNat &&& y.toNat:=by
  rw[BitVec.toNat_and];show (BitVec.ofInt 64 x).toNat &&& (BitVec.ofInt 64 y).toNat=_;rw[FP a,FP b]
 unfold B2;simp only;rw[h1];refine QU (ADY ADU ?_);have:=a.2;have:=a.1;omega
theorem Rs {x y:Int}:B2 .andNot .u64 x y=((BitVec.ofInt 64 x &&& ~~~BitVec.ofInt 64 y).toNat:Int):=by
 show IntKind.u64.wrap ((BitVec.ofInt 64 x &&& ~~~BitVec.ofInt 64 y).toNat:Int)=_;exact QU (BitVec.isLt _)
theorem S1 {x y:Int} (d:U64 x) (e:U64 y) (h:B2 .andNot .u64 x y=0) {r:Nat} (c:r<64) (b:x.toNat.testBit r=true):y.toNat.testBit r=true:=by
 rw[Rs]at h;have h1:(BitVec.ofInt 64 x &&& ~~~BitVec.ofInt 64 y).toNat=0:=by omega
 have a:(BitVec.ofInt 64 x &&& ~~~BitVec.ofInt 64 y).toNat.testBit r=false:=by rw[h1];exact Nat.zero_testBit r
 rw[oF,BitVec.getLsbD_and,BitVec.getLsbD_not,<-oF,<-oF,FP d,FP e,b]at a;simpa[c] using a
theorem S2 {x:Int}:B2 .andNot .u64 x x=0:=by
 rw[Rs];simp
theorem Oe {b:List Int}:∀ {n:Nat},∀k,Cj b n<=k->k<n->b.getD k 0=0
 | 0,k,_,h=>by omega
 | n+1,k,h1,c=>by
  unfold Cj at h1;split at h1
  .rename_i a;by_cases hk:k=n
   .rw[hk];exact a
   exact Oe k h1 (by omega)
  omega
theorem QV (b:List Int) (k:Nat):(BO b).getD k 0=b.getD k 0:=by
 unfold BO;by_cases h:k<Cj b b.length
 .simp[AS,UE,h]
 have h1:(List.take (Cj b b.length) b).getD k 0=0:=by
  rw[AS,UE,As h];rfl
 rw[h1];by_cases a:k<b.length
 .exact(Oe k (by omega) a).symm
 rw[AS,Ts (by omega)];rfl
theorem Og (b:List Int) (i:Nat):BW (BO b) i=BW b i:=by unfold BW;rw[QV]
def Ix (b:List Int):Prop:=∀x∈b,U64 x
theorem BE {b:List Int} (h:Ix b) (k:Nat):U64 (b.getD k 0):=by
 rw[AS];cases hh:b[k]? with
 | none=>exact⟨by simp,by simp⟩
 | some x=>exact h x (UW hh)
theorem Oh {b:List Int} (h:Ix b):Ix (BO b):=λx a=>h x (UN a)
theorem Ha (b:List Int) (k:Nat):F7 b (k:Int)=b.getD k 0:=by
 unfold F7;split
 .simp
 rename_i h;rw[AS,Ts (by omega)];rfl
theorem NA (op:BinOp) (a b:List Int) {n k:Nat} (h:k<n):(GL op a b n).getD k 0=B2 op .u64 (a.getD k 0) (b.getD k 0):=by
 unfold GL;rw[AS,UO,Ya h];show B2 op .u64 (a.getD k 0) (F7 b (k:Int))=_;rw[Ha]
theorem dV {a b:List Int} (h:Eh a b=true) {k:Nat} (hk:k<a.length):B2 .andNot .u64 (a.getD k 0) (b.getD k 0)=0:=by
 unfold Eh Rl BO at h;have h1:(List.take (Cj (GL .andNot a b a.length) (GL .andNot a b a.length).length) (GL .andNot a b a.length)).length=0:=by
  have:=UP.1 h;omega
 rw[OR,EV]at h1;have d:=Wk (GL .andNot a b a.length) a.length;have c:=Oe (b:=GL .andNot a b a.length) (n:=a.length) k (by omega) hk;rw[NA _ _ _ hk]at c;exact c
theorem L7 {a b:List Int} (ha:Ix a) (c:Ix b) (h:Eh a b=true) {i:Nat} (hi:BW a i=true):BW b i=true:=by
 by_cases hk:i / 64<a.length
 .exact S1 (BE ha _) (BE c _) (dV h hk) (AEq _ (by decide)) hi
 exfalso;unfold BW at hi;rw[AS,Ts (by omega)]at hi;simp at hi
theorem Ru {b:List Int}:∀ {n:Nat},(∀k,k<n->b.getD k 0=0)->Cj b n=0
 | 0,_=>rfl
 | n+1,h=>by
  unfold Cj;rw[BY (h n (by omega))];exact Ru λk hk=>h k (by omega)
theorem jG (a:List Int):Eh a a=true:=by
 unfold Eh Rl BO;have h1:Cj (GL .andNot a a a.length) (GL .andNot a a a.length).length=0:=by
  rw[EV];exact Ru λk hk=>by rw[NA _ _ _ hk];exact S2
 rw[h1];rfl
theorem jH (a:List Int):Fk a a=true:=by unfold Fk;rw[jG];rfl
theorem A7h {b:List Int} (j:Ix b) (l:b.length=64) {x:Int} (h0:0<=x) (h1:x<=4095) (i:Nat):BW (ofA b x) i=(BW b i||decide (x=(i:Int))):=by
 have d:Int.tdiv x 64=x / 64:=Uc h0;have e:Int.tmod x 64=x % 64:=aS h0;obtain⟨n,rfl⟩:∃n:Nat,x=(n:Int):=⟨x.toNat,by omega⟩;have hs:TS .u64 1 ((n:Int) % 64)=((2 ^ (n % 64):Nat):Int):=by
  unfold TS;have f:min ((n:Int) % 64).toNat IntKind.u64.bits=n % 64:=by
   have:((n:Int) % 64).toNat=n % 64:=by omega
   rw[this];have:IntKind.u64.bits=64:=rfl;omega
  rw[f,Int.one_mul];have:(2:Int) ^ (n % 64)=((2 ^ (n % 64):Nat):Int):=by simp
  rw[this];refine QU ?_;have a:(2:Nat) ^ (n % 64)<2 ^ 64:=Nat.pow_lt_pow_right (by decide) (AEq _ (by decide));exact a
 have hu:U64 (TS .u64 1 ((n:Int) % 64)):=by
  rw[hs];have a:(2:Nat) ^ (n % 64)<2 ^ 64:=Nat.pow_lt_pow_right (by decide) (AEq _ (by decide));have g:(2:Nat) ^ 64=18446744073709551616:=by decide
  refine⟨VA _,?_⟩;rw[g]at a;exact Do.2 a
 have hn:((n:Int) / 64).toNat=n / 64:=by omega
 unfold ofA BW;rw[d,e,hn];by_cases c:i / 64=n / 64
 .have k:n / 64<b.length:=by omega
  rw[c];have:(b.set (n / 64) (B2 .or .u64 (b.getD (n / 64) 0) (TS .u64 1 ((n:Int) % 64)))).getD (n / 64) 0=B2 .or .u64 (b.getD (n / 64) 0) (TS .u64 1 ((n:Int) % 64)):=by
   simp[AS,k]
  rw[this,A7g (BE j _) hu,hs];simp only[To,Nat.testBit_or,Nat.testBit_two_pow]
  congr 1
  rw[decide_eq_decide];omega
 have:(b.set (n / 64) (B2 .or .u64 (b.getD (n / 64) 0) (TS .u64 1 ((n:Int) % 64)))).getD (i / 64) 0=b.getD (i / 64) 0:=by
  simp[AS,Up,Ne.symm c]
 rw[this];have:decide ((n:Int)=(i:Int))=false:=by
  rw[Of];intro h;exact c (by omega)
 rw[this,Bool.or_false]
theorem A7i {b:List Int} (c:Ix b) (x:Int):Ix (ofA b x):=by
 intro y a;unfold ofA at a;rcases Yo a with h|h
 .exact c y h
 rw[h];have:=Mr .u64 ((BitVec.ofInt IntKind.u64.bits (b.getD (x.tdiv 64).toNat 0) ||| BitVec.ofInt IntKind.u64.bits (TS .u64 1 (x.tmod 64))).toNat:Int);rw[Io]at this;exact⟨this.1,by have:=this.2;show _<_;exact AE6 this (by decide)⟩
theorem A7j {l:List Int} (h:l.all okB=true) (i:Nat):BW (ofL l) i=decide ((i:Int)∈l)/\Ix (ofL l):=by
 have key:∀(l b:List Int),l.all okB=true->Ix b->b.length=64->BW (l.foldl ofA b) i=(BW b i||decide ((i:Int)∈l))/\Ix (l.foldl ofA b):=by
  intro l;induction l with
  | nil=>intro b _ a _;simp[a]
  | cons x l m =>
   intro b c a d;rw[Yp,An]at c;have e:=c.1;unfold okB at e;rw[TO,UX,Of,Of]at e;obtain⟨f,g⟩:=m (ofA b x) c.2 (A7i a x) (by simp[ofA,d]);rw[Tk];refine⟨?_,g⟩;rw[f,A7h a d (by omega) (by omega),Bool.or_assoc]
   congr 1
   rw[<-Bool.decide_or,decide_eq_decide,By,eq_comm]
 have j:Ix (List.replicate 64 (0:Int)):=by
  intro y k;rw[(List.mem_replicate.1 k).2];exact⟨by decide,by decide⟩
 have h1:=key l (List.replicate 64 0) h j (by simp);refine⟨?_,h1.2⟩;unfold ofL;rw[h1.1];have:BW (List.replicate 64 (0:Int)) i=false:=by
  unfold BW;have:(List.replicate 64 (0:Int)).getD (i / 64) 0=0:=by
   rw[AS,Yx];split<;>rfl
  rw[this];simp
 rw[this,AEi]
theorem A3v {low all:List ByteArray} {n i:Nat}:((i:Int)∈Od low all n)↔i<n/\Ag low (all.getD i ByteArray.empty)=true:=by
 unfold Od;rw[If];constructor
 .rintro⟨j,a,e⟩;have:j=i:=by omega
  subst this;rw[Yh,Tx]at a;exact a
 rintro⟨h1,b⟩;exact⟨i,by rw[Yh,Tx];exact⟨h1,b⟩,rfl⟩
theorem A7k {low all:List ByteArray} {n:Nat} (hn:n<=4096):(Od low all n).all okB=true:=by
 rw[ON];intro x a;unfold Od at a;obtain⟨j,b,rfl⟩:=If.1 a;rw[Yh,Tx]at b;unfold okB;rw[TO,UX,Of,Of];exact⟨by omega,by omega⟩
theorem EW {d:List AK} {all:List ByteArray} (c:all.length<=4096) (s:ByteArray) (i:Nat):(BW (HC d all s) i=true↔i<all.length/\Ag (Dj d s) (all.getD i ByteArray.empty)=true)/\Ix (HC d all s)/\(HC d all s).length<=64:=by
 have h1:=A7k (low:=Dj d s) (all:=all) c;have b:=A7j h1 i;have a:HC d all s=BO (ofL (Od (Dj d s) all all.length)):=by
  unfold HC ofF;rw[BY h1]
 refine⟨?_,?_,?_⟩
 .rw[a,Og,b.1,DO,A3v]
 .rw[a];exact Oh b.2
 rw[a];unfold BO;have:=QQ (Od (Dj d s) all all.length);rw[OR];omega
theorem S3 (d:List AK) {s t:ByteArray} (h:Ah s t=true):BI d s=BI d t:=by
 have key:∀(l:List AK) (k:Nat),Ck s k l=Ck t k l:=by
  intro l;induction l with
  | nil=>intro k;rfl
  | cons x l a =>
   intro k;simp only[Ck];have:Ah x.1 s=Ah x.1 t:=by grind [Ah,DD,FF]
   rw[this,a]
 exact key d 0
theorem DU {α:Type} {l:List α} {d:α} {k:Nat} (h:k<l.length):l.getD k d∈l:=by grind
theorem Cl {α:Type} {l:List α} (d:α) {x:α} (h:x∈l):∃k,k<l.length/\l.getD k d=x:=by
 obtain⟨k,hk,e⟩:=Ur.1 h;exact⟨k,hk,by rw[AS,AT hk];exact e⟩
theorem L8 {d:List AK}:∀ {r:List AK} {k:Nat},Oa d k r=0->∀j,j<r.length->¬BI d (r.getD j d0).1<((k+j:Nat):Int)/\Eu (r.getD j d0).1 false=true
 | [],_,_,j,a=>by simp at a
 | x :: r,k,h,j,a=>by
  simp only[Oa]at h;split at h
  .cases h
  rename_i h1;split at h
  .cases h
  rename_i b;cases j with
  | zero=>exact⟨b,by simpa using h1⟩
  | succ j =>
   have:=L8 h j (by simpa using a);have e:k+(j+1)=k+1+j:=by omega
   rw[e];exact this
theorem QW (s:ByteArray):∀(l:List AK) (k j:Nat),j<l.length->Ah (l.getD j d0).1 s=true->Ck s k l<=((k+j:Nat):Int)
 | [],_,j,h,_=>by simp at h
 | x :: l,k,j,h,e=>by
  simp only[Ck];split
  .omega
  rename_i h1;cases j with
  | zero=>exact absurd e h1
  | succ j =>
   have:=QW s l (k+1) j (by simpa using h) e;omega
theorem Ww {d:List AK} (h:Dh d=0) {j:Nat} (b:j<d.length):BI d (d.getD j d0).1=(j:Int):=by
 have h1:=(L8 h j b).1;have a:=QW (d.getD j d0).1 d 0 j b (FE _);rw[Yj]at h1 a;have a:BI d (d.getD j d0).1<=(j:Int):=a;omega
theorem jI {d:List AK} (h:Dh d=0) {x y:AK} (a:x∈d) (b:y∈d) (e:Ah x.1 y.1=true):x=y:=by
 obtain⟨i,hi,rfl⟩:=Cl d0 a;obtain⟨j,c,rfl⟩:=Cl d0 b;grind [Ww,S3]
theorem oT (d:List AK) (out:List ByteArray) (h:(H6 d out).1=true):∃x∈d,x.1=(H6 d out).2/\Ag out x.1=false/\JN x out=true:=by
 have key:∀(l:List AK) (s:Bool×ByteArray),(∀x∈l,x∈d)->(s.1=true->∃x∈d,x.1=s.2/\Ag out x.1=false/\JN x out=true)->(l.foldl (Iv out) s).1=true ->
   ∃x∈d,x.1=(l.foldl (Iv out) s).2/\Ag out x.1=false/\JN x out=true:=by
  intro l;induction l with
  | nil=>intro s _ hs h;exact hs h
  | cons y l c =>
   intro s a hs h;rw[Tk]at h ⊢;refine c _ (λx b=>a x (by simp[b])) (λhp=>?_) h;unfold Iv at hp ⊢;split
   .grind
   grind
 exact key d _ (λ_ h=>h) (λh=>by cases h) h
def PL (d:List AK) (o:List ByteArray):Prop:=∀j,j<o.length->∃x∈d,x.1=o.getD j ByteArray.empty/\Ag (o.take j) x.1=false/\JN x (o.take j)=true
theorem PL.snoc {d:List AK} {o:List ByteArray} (h:PL d o) {x:AK} (i:x∈d) (h1:Ag o x.1=false) (f:JN x o=true):PL d (o++[x.1]):=by
 intro j g;by_cases a:j<o.length
 .obtain⟨y,k,b,c,e⟩:=h j a;grind
 grind
theorem Wx {d:List AK}:∀ {n:Nat} {o:List ByteArray},PL d o->PL d (Iw d n o)
 | 0,_,h=>h
 | n+1,o,h=>by
  unfold Iw;split
  .rename_i hp;obtain⟨x,b,e,h1,a⟩:=oT d o hp;rw[<-e];exact Wx (h.snoc b h1 a)
  exact h
theorem Z2 (d:List AK):PL d (Bi d):=Wx λj a=>by simp at a
theorem PL.ok {d:List AK} {o:List ByteArray} (h:PL d o):f5 d o:=by
 refine⟨λs hs=>?_,?_⟩
 .obtain⟨j,a,rfl⟩:=Cl ByteArray.empty hs;obtain⟨x,b,e,-⟩:=h j a;rw[<-e];exact FG b
 rw[Tw];intro i j hi a f;obtain⟨x,b,e,h1,-⟩:=h j a;have c:=QP h1 o[i] (by rw[iS];exact⟨i,by omega,rfl⟩);grind
theorem oU {n:Nat} {l:List Nat} (h:l.Nodup) (c:∀j∈l,j<n) (hn:n<=l.length) {k:Nat} (hk:k<n):k∈l:=by
 refine IN λb=>?_;have:=Dz n (k :: l) (US.2 ⟨b,h⟩) (λj a=>by
  rcases By.1 a with rfl|a
  .exact hk
  exact c j a)
 simp at this;omega
theorem oV {d:List AK} (f:d.length<=(Bi d).length) {x:AK} (h:x∈d):∃s∈Bi d,Ah s x.1=true:=by
 have a:=(Z2 d).ok;have h1:=Km d a;have h0:=FG h;have l:=DY d x.1;have b:=oU (n:=d.length) h1 (λj c=>by
  obtain⟨s,hs,rfl⟩:=If.1 c;have h1:=a.decl s hs;rcases DY d s with g|⟨_,g,_⟩<;>omega) (by simpa using f) (k:=(BI d x.1).toNat) (by omega)
 obtain⟨s,hs,e⟩:=If.1 b;refine⟨s,hs,?_⟩;rcases DY d s with g|⟨_,_,i⟩
 .have:=a.decl s hs;omega
 grind [DD,FF]
def IA (d:List AK) (s:ByteArray):Nat:=(Bi d).findIdx λx=>Ah x s
theorem Oi (d:List AK) {s t:ByteArray} (h:Ah s t=true):IA d s=IA d t:=by grind [IA,Ah,DD,FF]
theorem Oj {d:List AK} (hn:Dh d=0) (o:d.length<=(Bi d).length) {x:AK} (g:x∈d) {s:ByteArray} (hs:Ag x.2.1 s=true):IA d s<IA d x.1:=by
 obtain⟨t,q,e⟩:=oV o g;have c:IA d x.1<(Bi d).length:=List.findIdx_lt_length_of_exists ⟨t,q,e⟩;have heq:Ah ((Bi d)[IA d x.1]) x.1=true:=List.findIdx_getElem (w:=c);obtain⟨y,r,a,-,j⟩:=Z2 d (IA d x.1) c;rw[AS,AT c]at a;have a:y.1=(Bi d)[IA d x.1]:=a;rw[<-a]at heq;have z:=jI hn r g heq;subst z;obtain⟨u,hu,h⟩:=UA.1 hs;have k:Ag ((Bi d).take (IA d y.1)) u=true:=ON.1 j u hu;obtain⟨v,f,ev⟩:=UA.1 k;rw[iS]at f;obtain⟨i,hi,rfl⟩:=f;have n:i<IA d y.1:=by omega
 refine ADY ?_ n;refine IN λm=>?_;have b:=List.not_of_lt_findIdx (p:=λx=>Ah x s) (xs:=Bi d) (i:=i) (by unfold IA at m;omega);have l:Ah ((Bi d)[i]) s=true:=DD ev h;try simp only at b
 rw[l]at b;exact absurd b (by simp)
def ZE (d:List AK) (s x:ByteArray):Prop:=Ah s x=true\/IA d s<IA d x
theorem A0T {d:List AK} (hn:Dh d=0) (f:d.length<=(Bi d).length) {s c:ByteArray} (b:ZE d s c) {o:List ByteArray} (e:∀x∈o,ZE d s x) {x:AK} (g:x∈d):∀y∈FX c o x,ZE d s y:=by
 intro y a;unfold FX at a;split at a
 .rename_i h;rw[An]at h;rcases IF.1 a with a|a
  .exact e y a
  have:y=x.1:=by simpa using a
  subst this;have h1:=Oj hn f g h.1;right;rcases b with b|b
  .rw[Oi d b];exact h1
  omega
 exact e y a
theorem Wy {d:List AK} (hn:Dh d=0) (e:d.length<=(Bi d).length) {s c:ByteArray} (b:ZE d s c):∀ {l:List AK} {o:List ByteArray},(∀x∈l,x∈d)->(∀x∈o,ZE d s x)->∀y∈l.foldl (FX c) o,ZE d s y
 | [],_,_,a=>a
 | x :: l,o,f,a=>by
  rw[Tk];exact Wy hn e b (λy g=>f y (by simp[g])) (A0T hn e b a (f x (by simp)))
theorem S4 {d:List AK} (hn:Dh d=0) (b:d.length<=(Bi d).length) {s:ByteArray}:∀ {n i:Nat} {o:List ByteArray},(∀x∈o,ZE d s x)->∀y∈Di d n i o,ZE d s y
 | 0,_,_,a=>a
 | n+1,i,o,a=>by
  unfold Di;split
  .rename_i hi;exact S4 hn b (Wy hn b (a _ (DU hi)) (λ_ h=>h) a)
  exact a
theorem A3w {c:ByteArray} {o:List ByteArray} {x:AK} {y:ByteArray} (h:y∈o):y∈FX c o x:=by grind [FX]
theorem NB {c:ByteArray} {y:ByteArray}:∀ {l:List AK} {o:List ByteArray},y∈o->y∈l.foldl (FX c) o
 | [],_,h=>h
 | x :: l,o,h=>by rw[Tk];exact NB (A3w h)
theorem Ol {d:List AK} {y:ByteArray}:∀ {n i:Nat} {o:List ByteArray},y∈o->y∈Di d n i o
 | 0,_,_,h=>h
 | n+1,i,o,h=>by
  unfold Di;split
  .exact Ol (NB h)
  exact h
theorem QX {l:List ByteArray} {s x:ByteArray} (h:x∈D9 l s):x∈l\/x=s:=by grind [D9]
theorem Z3 {l:List ByteArray} {s x:ByteArray} (h:x∈l):x∈D9 l s:=by
 unfold D9;split
 .exact h
 have a:x∈l.take (atF l s)\/x∈l.drop (atF l s):=IF.1 (by rw[Ys];exact h);grind
theorem jJ {l:List ByteArray} {s:ByteArray}:Ag (D9 l s) s=true:=by
 unfold D9;grind [Iu,atF,Ah,Ag,FE]
theorem NC {l:List ByteArray} {s:ByteArray} (h:s∈l):Ag l s=true:=UA.2 ⟨s,h,FE s⟩
theorem ND {l m:List ByteArray} {s:ByteArray} (hs:∀x∈l,x∈m) (h:Ag l s=true):Ag m s=true:=by
 obtain⟨x,a,e⟩:=UA.1 h;exact UA.2 ⟨x,hs x a,e⟩
theorem jK:∀ {l o:List ByteArray} {x:ByteArray},x∈l.foldl D9 o->x∈o\/x∈l
 | [],_,_,h=>.inl h
 | y :: l,o,x,h=>by
  rw[Tk]at h;rcases jK h with h|h
  .grind [QX]
  grind
theorem Z4:∀ {l o:List ByteArray} {x:ByteArray},x∈o->x∈l.foldl D9 o
 | [],_,_,h=>h
 | y :: l,o,x,h=>by rw[Tk];exact Z4 (Z3 h)
theorem Wz:∀ {l o:List ByteArray} {x:ByteArray},x∈l->Ag (l.foldl D9 o) x=true
 | [],_,_,h=>by cases h
 | y :: l,o,x,h=>by
  rw[Tk];rcases By.1 h with rfl|h
  .grind [ND,Z4,jJ]
  exact Wz h
theorem Om {d:List AK} {s:ByteArray} (h:0<=BI d s):Ag (Dj d s) s=true:=by
 unfold Dj;rw[As (by omega)];exact Wz (Ol (by simp))
theorem W8 {d:List AK} (hn:Dh d=0) (c:d.length<=(Bi d).length) {s x:ByteArray} (h:Ag (Dj d s) x=true):ZE d s x:=by
 obtain⟨y,a,e⟩:=UA.1 h;have b:ZE d s y:=by
  unfold Dj at a;split at a
  .cases a
  rcases jK a with a|a
  .cases a
  refine S4 hn c (λz f=>?_) y a;have:z=s:=by simpa using f
  rw[this];exact .inl (FE s)
 rcases b with b|b
 .exact .inl (DD b e)
 rw[Oi d e]at b;exact .inr b
theorem GP {d:List AK} {s:ByteArray} (h:s∈AX d):∃x∈d,x.1=s:=by
 have key:∀(l:List AK) (o:List ByteArray),s∈l.foldl (λo x=>D9 o x.1) o->s∈o\/∃x∈l,x.1=s:=by
  intro l;induction l with
  | nil=>intro o h;exact .inl h
  | cons x l a =>
   intro o h;rw[Tk]at h;rcases a _ h with h|⟨y,b,e⟩
   .grind [QX]
   grind
 rcases key d [] h with h|h
 .cases h
 exact h
theorem W9 {d:List AK} {x:AK} (h:x∈d):Ag (AX d) x.1=true:=by
 have b:∀(l:List AK) (o:List ByteArray),∀y∈o,y∈l.foldl (λo x=>D9 o x.1) o:=by
  intro l;induction l with
  | nil=>intro o y h;exact h
  | cons x l a=>intro o y h;rw[Tk];exact a _ y (Z3 h)
 have key:∀(l:List AK) (o:List ByteArray),x∈l->Ag (l.foldl (λo x=>D9 o x.1) o) x.1=true:=by
  intro l;induction l with
  | nil=>intro o h;cases h
  | cons y l a =>
   intro o h;rw[Tk];rcases By.1 h with rfl|h
   .grind [ND,jJ]
   exact a _ h
 exact key d [] h
theorem jL {d:List AK} (hn:Dh d=0) (g:d.length<=(Bi d).length) (r:d.length<=256) {i j:Nat} (hi:i<(AX d).length) (f:j<(AX d).length)
  (h:Fk (HC d (AX d) ((AX d).getD i ByteArray.empty)) (HC d (AX d) ((AX d).getD j ByteArray.empty))=true):Ah ((AX d).getD i ByteArray.empty) ((AX d).getD j ByteArray.empty)=true:=by
 have o:=FD d d.length;rw[Tl]at o;have a:(AX d).length<=4096:=by omega
 generalize hs:(AX d).getD i ByteArray.empty=s at *;generalize b:(AX d).getD j ByteArray.empty=t at *;have p:0<=BI d s:=by
  obtain⟨x,c,e⟩:=GP (s:=s) (by rw[<-hs];exact DU hi);rw[<-e];exact FG c
 have q:0<=BI d t:=by
  obtain⟨x,c,e⟩:=GP (s:=t) (by rw[<-b];exact DU f);rw[<-e];exact FG c
 obtain⟨c1,k,-⟩:=EW (d:=d) a s i;obtain⟨c2,l,-⟩:=EW (d:=d) a t i;obtain⟨m,-,-⟩:=EW (d:=d) a s j;obtain⟨n,-,-⟩:=EW (d:=d) a t j;unfold Fk at h;rw[An]at h;have b1:=W8 hn g (c2.1 (L7 k l h.1 (c1.2 ⟨hi,by rw[hs];exact Om p⟩))).2;have b2:=W8 hn g (m.1 (L7 l k h.2 (n.2 ⟨f,by rw[b];exact Om q⟩))).2;rw[hs]at b1;rw[b]at b2;rcases b1 with b1|b1
 .exact FF b1
 rcases b2 with b2|b2
 .exact b2
 omega
section
attribute [local go_sem] dI A3c L5 cs0 cs1
def nmG (d:List AK) (all:List ByteArray) (codes:List (List Int)) (b:List Int):Nat->Nat->List ByteArray->ByteArray ⊕ List ByteArray
 | 0,_,l=>.inr l
 | n+1,i,l=>if Fk (codes.getD i []) b=true then .inl (all.getD i ByteArray.empty) else nmG d all codes b n (i+1) (if Wl b (i:Int)=true then l++[all.getD i ByteArray.empty] else l)
def jM (l:List ByteArray) (s:ByteArray) (i:Nat):ByteArray:=(if 0<(i:Int) then s++ByteArray.mk #[38] else s)++l.getD i ByteArray.empty
def A3x (l:List ByteArray):ByteArray:=(List.range l.length).foldl (jM l) ByteArray.empty
def IB (d:List AK) (all:List ByteArray) (codes:List (List Int)) (b:List Int):ByteArray :=
 match nmG d all codes b all.length 0 [] with
 | .inl s=>s
 | .inr l=>A3x (B9 d l)
theorem Nw {d:List AK} {x:ByteArray}:∀ {l o:List ByteArray},x∈l.foldl (LI d) o->x∈o\/x∈l
 | [],_,h=>.inl h
 | y :: l,o,h=>by
  rw[Tk]at h;rcases Nw h with h|h
  .unfold LI at h;split at h
   .rcases QX h with h|h
    .exact .inl h
    exact .inr (by simp[h])
   exact .inl h
  exact .inr (by simp[h])
theorem dW {d:List AK} {l:List ByteArray} {x:ByteArray} (h:x∈B9 d l):x∈l:=by
 unfold B9 Te at h;obtain⟨i,hi,rfl⟩:=If.1 h;rw[Yh,Tx]at hi;rcases Nw (DU (d:=ByteArray.empty) hi.1) with h|h
 .cases h
 exact h
theorem dX (d:List AK) (l:List ByteArray):(B9 d l).length<=l.length:=Tp (jB _ _ _) (JO d l)
theorem oW {l:List ByteArray} (h:∀s∈l,s.size<=32) (k:Nat):(l.getD k ByteArray.empty).size<=32:=by
 rw[AS];cases hh:l[k]? with
 | none=>simp
 | some x=>exact h x (UW hh)
def XA (l:List ByteArray) (n:Nat):ByteArray:=(List.range n).foldl (jM l) ByteArray.empty
theorem XB (l:List ByteArray) (n:Nat):XA l (n+1)=jM l (XA l n) n:=by
 unfold XA;rw[UQ,Yy];rfl
theorem XC {l:List ByteArray} (h:∀s∈l,s.size<=32):∀n,(XA l n).size<=33*n
 | 0=>by simp[XA]
 | n+1=>by
  have h1:=XC h n;have a:=oW h n;rw[XB];unfold jM;split
  .rw[iN,iN];have:(ByteArray.mk #[38]).size=1:=rfl;omega
  rw[iN];omega
def dY:AZ:={ ins:=[Eo,F4,Ta,BM],pre:=λ(d,all,codes,b,_)=>Wn d/\List.length d<=256/\List.length all<=256/\List.length codes=List.length all/\(∀s∈(all:List ByteArray),s.size<=32)/\(∀x∈(codes:List (List Int)),x.length<=64)/\List.length b<=64,out:=λ(d,all,codes,b,_)=>[.p T9 (IB d all codes b)] }
theorem A0U:Ab Tryz.prog 164 dY:=by
 refine fK [0,1,2,3,8,9,10,11,12,16,24,31,45,49] Tryz.func164 Tryz.ntmps164 (AE A0H (AE A3d (AE Wq AH))) ?_;rintro w0 O0 ⟨d,all,codes,b,u⟩ e-⟨hs,z,t,q,C,y,w⟩;have t:all.length<=256:=t;have q:codes.length=all.length:=q;simp only[dY,AM];repeat'(first|exact trivial|apply eS rfl|refine rX e ?_ ?_)
 refine AJ (ι:={x:Nat×List ByteArray//x.1<=all.length/\x.2.length<=x.1/\(∀s∈x.2,s.size<=32)/\nmG d all codes b (all.length-x.1) x.1 x.2=nmG d all codes b all.length 0 []}) (λx=>⟨[(0,.p Eo d),(1,.p F4 all),(2,.p Ta codes),(3,.p BM b),(9,.sr 38 T9 0 x.1.2.length),(10,.p (.int .i64) (x.1.1:Int))],[(38,.arr 9 T9 x.1.2)]⟩) (λx=>all.length-x.1.1) ⟨(0,[]),by simp,by simp,by simp,rfl⟩ (eW [(38,.nil)]) (λx=>?_)
 obtain⟨⟨i,l⟩,hi,B,o,f⟩:=x;simp only at hi B o f;have r:i<all.length->nmG d all codes b (all.length-i) i l=if Fk (codes.getD i []) b=true then .inl (all.getD i ByteArray.empty) else nmG d all codes b (all.length-(i+1)) (i+1) (if Wl b (i:Int)=true then l++[all.getD i ByteArray.empty] else l):=by
  intro h;rw[show all.length-i=(all.length-(i+1))+1 by omega];rfl
 simp only;repeat'(first|exact trivial|apply eS rfl|apply AB|refine rX e ?_ ?_|refine rC ?_ ?_<;>intro a<;>try(cases a;done))
 .exact⟨by rw[q];exact a,Tp (L6 y i) (by decide),Tp w (by decide)⟩
 .assumption
 .have c:i<all.length:=by exact eV
  have j:IB d all codes b=all.getD i ByteArray.empty:=by
   unfold IB;rw[<-f,r c,BY a]
  exact fI e [.tmp 8] (by rw[j];exact eR)
 .have c:i<all.length:=by exact eV
  exact⟨Do.2 c,by simp only[AO];omega⟩
 .exact eV
 .have c:i<all.length:=by exact eV
  have hn:=r c;rw[As (by rw[‹Fk _ _=false›];simp),BY a]at hn;refine⟨⟨(i+1,l++[all.getD i ByteArray.empty]),by simp only;omega,by simp only[A0,GO];omega,?_,hn.symm.trans f⟩,by simp only;omega,AC [(38,.nm 38)] rfl rfl ?_ ?_⟩
  .intro s hs;rcases IF.1 hs with hs|hs
   .exact o s hs
   have:s=all.getD i ByteArray.empty:=by simpa using hs
   rw[this];exact oW C i
  .exact eN
  exact eN
 .exact eV
 .have c:i<all.length:=by exact eV
  have hn:=r c;rw[As (by rw[‹Fk _ _=false›];simp),As (by rw[a];simp)]at hn;exact⟨⟨(i+1,l),by simp only;omega,by simp only;omega,o,hn.symm.trans f⟩,by simp only;omega,eW [(38,.nm 38)]⟩
 have j:IB d all codes b=A3x (B9 d l):=by
  unfold IB;rw[<-f];have:all.length-i=0:=by exact eV
  rw[this];rfl
 refine E6 [38] ?_;repeat'(first|exact trivial|apply eS rfl|refine rX e ?_ ?_)
 .exact⟨hs,z,by omega⟩
 have v:∀s∈B9 d l,s.size<=32:=λs h=>o s (dW h);have E:=dX d l;have A:A3x (B9 d l)=XA (B9 d l) (B9 d l).length:=rfl;rw[A]at j;generalize B9 d l=m at *;refine AJ (ι:={k:Nat//k<=m.length}) (λk=>⟨[(9,.p F4 m),(11,.p T9 (XA m k.1)),(12,.p (.int .i64) (k.1:Int))],[]⟩) (λk=>m.length-k.1) ⟨0,IS _⟩ (AC [] rfl rfl ?_ ?_) (λk=>?_)
 .exact eN
 .refine eM ?_;rfl
 obtain⟨k,hk⟩:=k;have hk:k<=m.length:=hk;have D:=XC v k;have n:=XB m k;have F:=oW v k;unfold jM at n;simp only;repeat'(first|exact trivial|apply eS rfl|apply AB|refine rX e ?_ ?_|refine rC ?_ ?_<;>intro a<;>try(cases a;done))
 .have h1:(ByteArray.mk #[38]).size=1:=rfl;rw[h1];simp only[AO];exact eV
 .refine⟨by assumption,?_⟩;have h1:(ByteArray.mk #[38]).size=1:=rfl;rw[iN,h1];simp only[AO];exact eV
 .exact eV
 .have g:k<m.length:=by exact eV
  rw[BY a]at n;refine⟨⟨k+1,g⟩,by simp only;omega,AC [] rfl rfl ?_ ?_⟩
  .exact eN
  simp only[n];exact eN
 .refine⟨by assumption,?_⟩;simp only[AO];exact eV
 .exact eV
 .have g:k<m.length:=by exact eV
  rw[As (Yd.2 a)]at n;refine⟨⟨k+1,g⟩,by simp only;omega,AC [] rfl rfl ?_ ?_⟩
  .exact eN
  simp only[n];exact eN
 have g:k=m.length:=by exact eV
 rw[<-g]at j;exact fI e [.tmp 8] (by rw[j];exact eR)
end
section
attribute [local go_sem] VP QO A3r dU dY dT
def FQ (x:AQ) (out:List AQ):Nat->Nat
 | 0=>0
 | n+1=>if Fl x (out.getD n c0)=true then FQ x out n else n+1
def dZ (out:List AQ) (x:AQ):List AQ:=out.take (FQ x out out.length)++[x]++out.drop (FQ x out out.length)
def Ak (d:List AK):List (List Int):=(AX d).map λs=>HC d (AX d) s
def GQ (d:List AK) (all:List ByteArray) (codes:List (List Int)) (out:List AQ) (b:List Int):List AQ:=dZ out (IB d all codes b,b)
def Rv (d:List AK):List AQ->List Int->List AQ:=GQ d (AX d) (Ak d)
theorem Oo (d:List AK) (all:List ByteArray) (codes:List (List Int)):∀(l:List (List Int)) (o:List AQ),(l.foldl (GQ d all codes) o).length=o.length+l.length
 | [],o=>by simp
 | b :: l,o=>by
  rw[Tk,Oo d all codes l];unfold GQ dZ;simp only[A0,OR,UL,OS,Ug];omega
theorem XD {d:List AK} {all:List ByteArray} {codes:List (List Int)}:∀ {l:List (List Int)} {o:List AQ},(∀c∈l,c.length<=64)->(∀y∈o,y.2.length<=64)->∀y∈l.foldl (GQ d all codes) o,y.2.length<=64
 | [],_,_,e=>e
 | b :: l,o,f,e=>by
  rw[Tk];refine XD (λc g=>f c (by simp[g])) (λy a=>?_);unfold GQ dZ at a;simp only[IF,Tu]at a;rcases a with (a|a)|a
  .exact e y (UN a)
  .rw[a];exact f b (by simp)
  exact e y (Yw a)
theorem jN (x:AQ) (out:List AQ):∀n,FQ x out n<=n
 | 0=>Is _
 | n+1=>by
  unfold FQ;split
  .exact Nat.le_succ_of_le (jN x out n)
  exact Is _
def A5 (d:List AK):List AQ:=(A8 (Ak d)).foldl (Rv d) []
def B7 (d:List AK):List AQ×Int :=
 if BU d≠0 then ([],BU d) else if 256<(A8 (Ak d)).length then ([],7) else (A5 d,0)
theorem oX {s:ByteArray} {b:Bool} (h:Eu s b=true):s.size<=32:=by
 unfold Eu at h;rw[An]at h;have h1:=h.1;unfold Rj at h1;simp only[TO,UX,Of]at h1;have:=h1.1.1.2;omega
theorem jO {d:List AK} (hn:Dh d=0):∀s∈AX d,s.size<=32:=by
 intro s hs;obtain⟨x,b,rfl⟩:=GP hs;obtain⟨j,a,rfl⟩:=Cl d0 b;exact oX (L8 hn j a).2
def Kn (d:List AK) (n:Nat):List (List Int):=((AX d).take n).map λs=>HC d (AX d) s
theorem oY {d:List AK} {n:Nat} (h:n<=(AX d).length):(Kn d n).length=n:=by simp[Kn,h]
theorem jP {d:List AK} {n:Nat} (h:n<(AX d).length):Kn d (n+1)=Kn d n++[HC d (AX d) ((AX d).getD n ByteArray.empty)]:=by
 unfold Kn;rw[Ax _ ByteArray.empty h,UH];rfl
theorem oZ (d:List AK):Kn d (AX d).length=Ak d:=by simp[Kn,Ak]
theorem o0 (d:List AK):(Ak d).length=(AX d).length:=by simp[Ak]
theorem Oq {d:List AK} (h:d.length<=256):∀c∈Ak d,c.length<=64:=by
 intro c a;unfold Ak at a;obtain⟨s,-,rfl⟩:=If.1 a;have b:=FD d d.length;rw[Tl]at b;exact(EW (d:=d) (all:=AX d) (by omega) s 0).2.2
theorem jQ {i:Nat}:∀ {n k:Nat} {l:List (List Int)},(∀c∈l,c.length<=64)->∀c∈Gx i n k l,c.length<=64
 | 0,_,_,h=>h
 | n+1,k,l,h=>by
  unfold Gx;split
  .exact jQ (jF h i k)
  exact h
theorem QY:∀ {n i:Nat} {l:List (List Int)},(∀c∈l,c.length<=64)->∀c∈JP n i l,c.length<=64
 | 0,_,_,h=>h
 | n+1,i,l,h=>by
  unfold JP;split
  .exact QY (jQ h)
  exact h
theorem jR {out:List AQ} {x y:AQ}:y∈dZ out x↔y=x\/y∈out:=by
 unfold dZ;rw[IF,IF,Tu];have h:=IF (a:=y) (s:=out.take (FQ x out out.length)) (t:=out.drop (FQ x out out.length));rw[Ys]at h;rw[h];constructor
 .rintro ((h|h)|h)
  .exact .inr (.inl h)
  .exact .inl h
  exact .inr (.inr h)
 rintro (h|h|h)
 .exact .inl (.inr h)
 .exact .inl (.inl h)
 exact .inr h
def Rw:AZ:={ ins:=[Eo],pre:=λ_=>True,out:=λ(d,_)=>[.p Jo (B7 d).1,.p GK (B7 d).2] }
theorem QZ:Ab Tryz.prog 118 Rw:=by
 refine fK [0,2,3,4,5,6,7,8,9,10,11,12,13,17,24,41,45,73] Tryz.func118 Tryz.ntmps118 (AE A0N (AE Zt (AE A7d (AE A0S (AE A0U (AE A0Q AH)))))) ?_;rintro w0 O0 ⟨d,u⟩ g - -;simp only[Rw,AM];repeat'(first|exact trivial|apply eS rfl|refine rX g ?_ ?_|refine rC ?_ ?_<;>intro a<;>try(cases a;done))
 .have h1:B7 d=([],BU d):=by unfold B7;rw[BY a]
  exact fI g [.tmp 2,.tmp 3] (by rw[h1];exact eR)
 .have i:BU d=0:=by simpa using a
  obtain⟨-,E,-⟩:=BD i;exact Tp E (by decide)
 have i:BU d=0:=by simpa using a
 obtain⟨M,s,-,hn,-⟩:=BD i;have F:=FD d d.length;rw[Tl]at F;have N:=jO hn;refine AJ (ι:={n:Nat//n<=(AX d).length}) (λn=>⟨[(0,.p Eo d),(5,.p F4 (AX d)),(6,.sr 36 BM 0 (Kn d n.1).length),(7,.p (.int .i64) (n.1:Int))],[(36,.arr 140 BM (Kn d n.1))]⟩) (λn=>(AX d).length-n.1) ⟨0,IS _⟩ (AC [(36,.nil)] rfl rfl ?_ ?_) (λn=>?_)
 .refine eM ?_;rfl
 .refine eM ?_;rfl
 obtain⟨n,I⟩:=n;have Q:=oY I;have hs:=λh=>jP (d:=d) (n:=n) h;simp only;repeat'(first|exact trivial|apply eS rfl|apply AB|refine rX g ?_ ?_|refine rC ?_ ?_<;>intro a<;>try(cases a;done))
 .refine⟨a,⟨s,by dsimp only[Ty.den]at *;omega⟩,?_⟩;simp only[AO];dsimp only[Ty.den]at *;omega
 .exact eV
 .have w:n<(AX d).length:=by exact eV
  have e:=hs w;refine⟨⟨n+1,by omega⟩,by simp only;omega,AC [(36,.nm 36)] rfl rfl ?_ ?_⟩
  .simp only[e];exact eN
  simp only[e];exact eN
 have w:n=(AX d).length:=by exact eV
 subst w;rw[oZ];have H:=o0 d;have x:=Oq s;have t:∀c∈A8 (Ak d),c.length<=64:=QY x;refine E6 [36] ?_;repeat'(first|exact trivial|apply eS rfl|refine rX g ?_ ?_|refine rC ?_ ?_<;>intro a<;>try(cases a;done))
 .exact⟨by omega,x⟩
 .have h1:B7 d=([],7):=by
   unfold B7;rw[As (by rw[i];simp),BY (by omega)]
  exact fI g [.tmp 2,.tmp 3] (by rw[h1];exact eR)
 have D:B7 d=((A8 (Ak d)).foldl (GQ d (AX d) (Ak d)) [],0):=by
  unfold B7;rw[As (by rw[i];simp),As (by omega)];rfl
 generalize A8 (Ak d)=f at *;generalize Ak d=codes at *;generalize AX d=all at *;refine AJ (ι:={k:Nat//k<=f.length}) (λk=>⟨[(0,.p Eo d),(5,.p F4 all),(6,.p Ta codes),(8,.p Ta f),(9,.sr 9 dG 0 ((f.take k.1).foldl (GQ d all codes) []).length),(10,.p (.int .i64) (k.1:Int))],[(9,.arr 152 dG ((f.take k.1).foldl (GQ d all codes) []))]⟩) (λk=>f.length-k.1) ⟨0,IS _⟩ (AC [(9,.nil)] rfl rfl ?_ ?_) (λk=>?_)
 .refine eM ?_;rfl
 .refine eM ?_;rfl
 obtain⟨k,hk⟩:=k;have C:=Oo d all codes (f.take k) [];have O:(f.take k).length=k:=by rw[OR];exact Yr hk
 have J:=XD (d:=d) (all:=all) (codes:=codes) (l:=f.take k) (o:=[]) (λc g=>t c (UN g)) (by simp);have L:=λh:k<f.length=>Ei (GQ d all codes) f [] [] h;rw[O]at C;simp only[Ug,Yj]at C;generalize B:(f.take k).foldl (GQ d all codes) []=out at *;simp only;repeat'(first|exact trivial|apply eS rfl|refine rX g ?_ ?_|refine rC ?_ ?_<;>intro a<;>try(cases a;done))
 .exact⟨a,⟨M,s,by omega,H,N,x,L6 t k⟩,a⟩
 .have v:k<f.length:=by exact eV
  have e:=L v;have G:=L6 t k;generalize f.getD k []=b at *;unfold GQ at e;generalize IB d all codes b=nm at *;refine AJ (ι:={q:Nat//q<=out.length/\FQ (nm,b) out q=FQ (nm,b) out out.length}) (λq=>⟨[(0,.p Eo d),(5,.p F4 all),(6,.p Ta codes),(8,.p Ta f),(9,.sr 9 dG 0 out.length),(10,.p (.int .i64) (k:Int)),(11,.bp 11 [] 0),(12,.p (.int .i64) (q.1:Int))],[(9,.arr 152 dG out),(11,.box 152 true [.p T9 nm,.p BM b])]⟩) (λq=>q.1) ⟨out.length,Is _,rfl⟩ (eW [(9,.nm 9),(11,.nm 11)]) (λq=>?_)
  obtain⟨q,j,A⟩:=q;have j:q<=out.length:=j;simp only;repeat'(first|exact trivial|apply eS rfl|apply AB|refine rX g ?_ ?_|refine rC ?_ ?_<;>intro a<;>try(cases a;done))
  .refine⟨λh=>by omega,λh=>by exact eV,λh=>⟨Tp G (by decide),Tp (J _ (AF out c0 (k:=((q:Int)-1).toNat) (by omega))) (by decide)⟩⟩
  .omega
  .obtain⟨P,z⟩:=a;obtain⟨q,rfl⟩:∃r,q=r+1:=⟨q-1,by omega⟩;have m:((q+1:Nat):Int)-1=(q:Int):=by omega
   refine⟨⟨q,by omega,?_⟩,Nat.lt_succ_self q,AC [(9,.nm 9),(11,.nm 11)] rfl rfl ?_ ?_⟩
   .rw[<-A];rw[m,To]at z;show _=if Fl (nm,b) (out.getD q c0)=true then FQ (nm,b) out q else q+1
    rw[BY z]
   .exact eN
   refine eM ?_;show (q:Int)+1-1=q;omega
  .refine⟨Tn.2 j,?_⟩;rw[OR];simp only[AO];omega
  .rw[OR];simp only[AO];omega
  .refine⟨Tn.2 j,?_⟩;rw[OR,UL];simp only[AO];omega
  .omega
  have K:FQ (nm,b) out q=q:=by
   cases q with
   | zero=>rfl
   | succ q =>
    have m:((q+1:Nat):Int)-1=(q:Int):=by omega
    have:=a (by omega);rw[m,To]at this;show (if Fl (nm,b) (out.getD q c0)=true then FQ (nm,b) out q else q+1)=q+1;rw[As (by rw[this];simp)]
  unfold dZ at e;rw[<-A,K]at e;refine⟨⟨k+1,by omega⟩,by simp only;omega,AC [(9,.nm 80)] rfl rfl ?_ ?_⟩
  .refine eM ?_;exact e.symm
  refine eM ?_;have y:=Uu List.length e;rw[A0,A0]at y;exact y.symm
 have v:k=f.length:=by exact eV
 rw[v,Tl]at B;rw[B]at D;refine E6 [9] ?_;exact fI g [.tmp 2,.tmp 3] (by rw[D];exact eR)
end
theorem Z5 {d:List AK}:∀ {l:List (List Int)} {o:List AQ} {y:AQ},y∈l.foldl (Rv d) o↔y∈o\/∃b∈l,y=(IB d (AX d) (Ak d) b,b)
 | [],o,y=>by simp
 | b :: l,o,y=>by
  rw[Tk,Z5];unfold Rv GQ;rw[jR];simp only[By];constructor
  .rintro ((h|h)|⟨c,a,e⟩)
   .exact .inr ⟨b,.inl rfl,h⟩
   .exact .inl h
   exact .inr ⟨c,.inr a,e⟩
  rintro (h|⟨c,rfl|a,e⟩)
  .exact .inl (.inr h)
  .exact .inl (.inl e)
  exact .inr ⟨c,a,e⟩
theorem EX {d:List AK} {y:AQ}:y∈A5 d↔∃b∈A8 (Ak d),y=(IB d (AX d) (Ak d) b,b):=by
 unfold A5;rw[Z5];simp
theorem IC (d:List AK):(A5 d).length=(A8 (Ak d)).length:=by
 have h:=Oo d (AX d) (Ak d) (A8 (Ak d)) [];rw[Ug,Yj]at h;exact h
theorem A3y {l:List (List Int)} {i k:Nat} {c:List Int} (h:c∈l):c∈Gw l i k:=by
 unfold Gw;split
 .exact IF.2 (.inl h)
 exact h
theorem jS {i:Nat} {c:List Int}:∀ {n k:Nat} {l:List (List Int)},c∈l->c∈Gx i n k l
 | 0,_,_,h=>h
 | n+1,k,l,h=>by
  unfold Gx;split
  .exact jS (A3y h)
  exact h
theorem jT {c:List Int}:∀ {n i:Nat} {l:List (List Int)},c∈l->c∈JP n i l
 | 0,_,_,h=>h
 | n+1,i,l,h=>by
  unfold JP;split
  .exact jT (jS h)
  exact h
theorem S5 (d:List AK) {i:Nat} (h:i<(AX d).length):(Ak d).getD i []=HC d (AX d) ((AX d).getD i ByteArray.empty):=by
 unfold Ak;simp[AS,h]
theorem yO {d:List AK} (hn:Dh d=0) (f:d.length<=(Bi d).length) (c:d.length<=256) {j:Nat} (b:j<(AX d).length):∀(m i:Nat) (l:List ByteArray),i+m=(AX d).length->i<=j ->
  ∃s,nmG d (AX d) (Ak d) ((Ak d).getD j []) m i l=.inl s/\Ah s ((AX d).getD j ByteArray.empty)=true
 | 0,i,l,h,g=>by omega
 | m+1,i,l,h,g=>by
  unfold nmG;split
  .rename_i a;refine⟨_,rfl,?_⟩;rw[S5 d (by omega),S5 d b]at a;exact jL hn f c (by omega) b a
  rename_i a;have k:i≠j:=by
   intro e;subst e;exact a (jH _)
  exact yO hn f c b m (i+1) _ (by omega) (by omega)
theorem yP (s:ByteArray):∀(l:List AQ) (k:Nat),Rq s k l<((k+l.length:Nat):Int)
 | [],k=>by simp only[Rq];omega
 | x :: l,k=>by
  simp only[Rq];split
  .simp only[OS];omega
  have:=yP s l (k+1);simp only[OS];omega
theorem yQ (s:ByteArray):∀(l:List AQ) (k:Nat) (x:AQ),x∈l->Ah x.1 s=true->0<=Rq s k l
 | [],_,_,h,_=>by cases h
 | y :: l,k,x,h,e=>by
  simp only[Rq];split
  .omega
  rename_i a;rcases By.1 h with rfl|h
  .exact absurd e a
  exact yQ s l (k+1) x h e
theorem o4 (l:List AQ) (s:ByteArray):DP l s<(l.length:Int):=by
 have:=yP s l 0;rw[Yj]at this;exact this
theorem S6 {d:List AK} (h:BU d=0) {s:ByteArray} (hs:Ag (AX d) s=true):0<=DP (A5 d) s:=by
 obtain⟨-,b,-,hn,f⟩:=BD h;obtain⟨t,g,e⟩:=UA.1 hs;obtain⟨j,c,rfl⟩:=Cl ByteArray.empty g;obtain⟨u,hu,a⟩:=yO hn f b c (AX d).length 0 [] (by omega) (by omega);have i:(Ak d).length=(AX d).length:=by simp[Ak]
 refine yQ s (A5 d) 0 (u,(Ak d).getD j []) ?_ (DD a e);rw[EX];refine⟨(Ak d).getD j [],jT (DU (by omega)),?_⟩;unfold IB;rw[hu]
theorem S7 {d:List AK} (h:BU d=0) {x:AK} (a:x∈d):0<=DP (A5 d) x.1:=S6 h (W9 a)
theorem B5 {d:List AK} (h:(B7 d).2=0):BU d=0/\(A8 (Ak d)).length<=256/\(B7 d).1=A5 d:=by
 unfold B7 at h ⊢;split at h
 .rename_i h1;exact absurd h h1
 rename_i h1;split at h
 .cases h
 rename_i a;exact⟨IN h1,by omega,by rw[As h1,As a]⟩
theorem A7l {d:List AK} (h:BU d=0):0<(A5 d).length:=by
 obtain⟨-,-,a,-,-⟩:=BD h;cases d with
 | nil=>cases a
 | cons x d =>
  have:=S7 h (x:=x) (by simp);have b:=o4 (A5 (x :: d)) x.1;omega
section
attribute [local go_sem] yM
def A9t (l:List AQ) (i k:Int) (m:Nat):Bool:=(m:Int)==i||(m:Int)==k||!Nv l k (m:Int)||!Nv l (m:Int) i
def A0V (l:List AQ) (i k:Int) (n:Nat):Bool:=(List.range n).all (A9t l i k)
def A0W (l:List AQ) (i:Int) (k:Nat):Bool:=!((k:Int)==i||!Nv l (k:Int) i)&&A0V l i (k:Int) l.length
def Nx (l:List AQ) (i:Int) (n:Nat):List Int:=((List.range n).filter λ(k:Nat)=>A0W l i k).map λ(k:Nat)=>(k:Int)
def jU (l:List AQ) (i:Int):List Int:=Nx l i l.length
theorem o5 (l:List AQ) (i:Int) (n:Nat):Nx l i (n+1)=Nx l i n++if A0W l i n=true then [(n:Int)] else []:=by
 unfold Nx;rw[UQ,AA5,UH]
 congr 1
 rw[Ue,ADu];split<;>rfl
theorem A0X (l:List AQ) (i:Int) (n:Nat):(Nx l i n).length<=n:=by
 unfold Nx;rw[OF];exact Tp (Ul _ _) (by simp)
theorem A0Y (l:List AQ) (i k:Int) (n:Nat):A0V l i k (n+1)=(A0V l i k n&&A9t l i k n):=by
 unfold A0V;rw[UQ,AD7];simp
def A3z:AZ:={ ins:=[Jo,T3],pre:=λ(l,i,_)=>((0:Int)<=i/\i<(List.length l:Int))/\List.length l<=256/\(∀x∈(l:List AQ),x.2.length<=64),out:=λ(l,i,_)=>[.p FA (jU l i)] }
theorem A7m:Ab Tryz.prog 119 A3z:=by
 refine fK [0,1,4,5,6,7,8,12,24,28,56] Tryz.func119 Tryz.ntmps119 (AE yN AH) ?_;rintro w0 O0 ⟨l,i,u⟩ c-⟨hi,g,o⟩;have g:l.length<=256:=g;have f:∀x∈(l:List AQ),x.2.length<=100000:=λx h=>Tp (o x h) (by decide);simp only[A3z,AM];repeat'(first|exact trivial|apply eS rfl|refine rX c ?_ ?_)
 refine AJ (ι:={k:Nat//k<=l.length}) (λk=>⟨[(0,.p Jo l),(1,.p T3 i),(5,.sr 60 T3 0 (Nx l i k.1).length),(6,.p (.int .i64) (k.1:Int))],[(60,.arr 3 T3 (Nx l i k.1))]⟩) (λk=>l.length-k.1) ⟨0,IS _⟩ (AC [(60,.nil)] rfl rfl ?_ ?_) (λk=>?_)
 .refine eM ?_;rfl
 .refine eM ?_;rfl
 obtain⟨k,hk⟩:=k;have hk:k<=l.length:=hk;have q:=A0X l i k;have hs:=o5 l i k;simp only;repeat'(first|exact trivial|apply eS rfl|apply AB|refine rX c ?_ ?_|refine rC ?_ ?_<;>intro a<;>try(cases a;done))
 .intro h;exact⟨by assumption,hi,f⟩
 .exact eV
 .have e:k<l.length:=by exact eV
  have b:A0W l i k=false:=by
   unfold A0W;rw[Um];left;rw[YY,UI,UP,TO];exact a
  rw[b,As (by simp),UF]at hs;refine⟨⟨k+1,by omega⟩,by simp only;omega,AC [(60,.nm 60)] rfl rfl ?_ ?_⟩
  .simp only[hs];exact eN
  simp only[hs];exact eN
 .have e:k<l.length:=by exact eV
  have b:A0W l i k=A0V l i (k:Int) l.length:=by
   unfold A0W;rw[show ((k:Int)==i||!Nv l (k:Int) i)=false by
    rw[UX,Uw,YY];exact a]
   rfl
  refine AJ (ι:={m:Nat//m<=l.length}) (λm=>⟨[(0,.p Jo l),(1,.p T3 i),(5,.sr 60 T3 0 (Nx l i k).length),(6,.p (.int .i64) (k:Int)),(7,.p .bool (A0V l i (k:Int) m.1)),(8,.p (.int .i64) (m.1:Int))],[(60,.arr 3 T3 (Nx l i k))]⟩) (λm=>l.length-m.1) ⟨0,IS _⟩ (AC [(60,.nm 60)] rfl rfl ?_ ?_) (λm=>?_)
  .exact eN
  .refine eM ?_;rfl
  obtain⟨m,j⟩:=m;have j:m<=l.length:=j;have n:=A0Y l i (k:Int) m;simp only;repeat'(first|exact trivial|apply eS rfl|apply AB|refine rX c ?_ ?_|refine rC ?_ ?_<;>intro a<;>try(cases a;done))
  .exact⟨λh=>⟨by assumption,a,f⟩,λh=>⟨a,hi,f⟩⟩
  .exact eV
  .have d:m<l.length:=by exact eV
   refine⟨⟨m+1,by omega⟩,by simp only;omega,AC [(60,.nm 60)] rfl rfl ?_ ?_⟩
   .exact eN
   simp only[n];unfold A9t;exact eN
  .simp only[AO];dsimp only[Ty.den]at *;omega
  .exact eV
  .have d:m=l.length:=by exact eV
   subst d;rw[b,BY a]at hs;refine⟨⟨k+1,by omega⟩,by simp only;omega,AC [(60,.nm 60)] rfl rfl ?_ ?_⟩
   .simp only[hs];exact eN
   simp only[hs];exact eN
  .exact eV
  have d:m=l.length:=by exact eV
  subst d;rw[b,As (by rw[a];simp),UF]at hs;refine⟨⟨k+1,by omega⟩,by simp only;omega,AC [(60,.nm 60)] rfl rfl ?_ ?_⟩
  .simp only[hs];exact eN
  simp only[hs];exact eN
 have e:k=l.length:=by exact eV
 subst e;refine E6 [60] ?_;exact fI c [.tmp 4] (by unfold jU;exact eR)
end
section
attribute [local go_sem] QO Wj JM
abbrev FV:=ByteArray×ByteArray
abbrev f0V:FV:=(ByteArray.empty,ByteArray.empty)
def dcG (all:List ByteArray) (l:List FV):Nat->List FV->Int
 | _,[]=>0
 | k,x :: r=>if Eu x.1 true=false then 1 else if ((l.take k).any λy=>Ah y.1 x.1)=true then 4 else if Ag all x.2=false then 5 else dcG all l (k+1) r
def d5 (all:List ByteArray):List AK->Int
 | []=>0
 | x :: l=>if dcG all x.2.2 0 x.2.2≠0 then dcG all x.2.2 0 x.2.2 else d5 all l
def L9 (d:List AK):Int:=d5 (AX d) d
theorem A3A (all:List ByteArray) (l:List FV) {k:Nat} (h:k<l.length):dcG all l k (l.drop k)=if Eu (l.getD k f0V).1 true=false then 1 else if ((l.take k).any λy=>Ah y.1 (l.getD k f0V).1)=true then 4 else if Ag all (l.getD k f0V).2=false then 5 else dcG all l (k+1) (l.drop (k+1)):=by
 rw[Tj h];have e:l.getD k f0V=l[k]:=by simp[AS,h]
 rw[e];rfl
theorem A0Z (all:List ByteArray) (l:List AK) {k:Nat} (h:k<l.length):d5 all (l.drop k)=if dcG all (l.getD k d0).2.2 0 (l.getD k d0).2.2≠0 then dcG all (l.getD k d0).2.2 0 (l.getD k d0).2.2 else d5 all (l.drop (k+1)):=by
 rw[Tj h];have e:l.getD k d0=l[k]:=by simp[AS,h]
 rw[e];rfl
def o6:AZ:={ ins:=[Eo],pre:=λ(d,_)=>List.length d<=256,out:=λ(d,_)=>[.p GK (L9 d)] }
theorem A3B:Ab Tryz.prog 193 o6:=by
 refine fK [0,2,3,4,5,6,7,13,24,33,36,49,57] Tryz.func193 Tryz.ntmps193 (AE Zt (AE oH (AE Gj AH))) ?_;rintro w0 O0 ⟨d,u⟩ c ⟨⟨x,v⟩,-⟩ j;have j:d.length<=256:=j;simp only[o6,AM];repeat'(first|exact trivial|apply eS rfl|refine rX c ?_ ?_)
 .exact Tp j (by decide)
 have w:L9 d=d5 (AX d) d:=rfl;rw[w];generalize AX d=all at *;refine AJ (ι:={i:Nat//i<=d.length/\d5 all (d.drop i)=d5 all d}) (λi=>⟨[(0,.p Eo d),(3,.p F4 all),(4,.p (.int .i64) (i.1:Int))],[]⟩) (λi=>d.length-i.1) ⟨0,IS _,rfl⟩ (eW []) (λi=>?_)
 obtain⟨i,hi,hf⟩:=i;simp only;repeat'(first|exact trivial|apply eS rfl|refine rX c ?_ ?_|refine rC ?_ ?_<;>intro a<;>try(cases a;done))
 .exact a
 .have o:i<d.length:=by exact eV
  rw[A0Z all d o]at hf;have A:(d.getD i d0).2.2.length<=AO:=(v _ (AF d d0 o)).2.2.1;have z:(List.getD d i (ByteArray.empty,[],[])).2.2=(d.getD i d0).2.2:=rfl;rw[z];generalize (d.getD i d0).2.2=l at *;simp only[AO]at A;refine AJ (ι:={k:Nat//k<=l.length/\dcG all l k (l.drop k)=dcG all l 0 l}) (λk=>⟨[(0,.p Eo d),(3,.p F4 all),(4,.p (.int .i64) (i:Int)),(5,.p iW l),(6,.p (.int .i64) (k.1:Int))],[]⟩) (λk=>l.length-k.1) ⟨0,IS _,rfl⟩ (eW []) (λk=>?_)
  obtain⟨k,hk,b⟩:=k;have r:=λh:k<l.length=>A3A all l h;simp only;repeat'(first|exact trivial|apply eS rfl|apply AB|refine rX c ?_ ?_|refine rC ?_ ?_<;>intro a<;>try(cases a;done))
  .exact a
  .have e:k<l.length:=by exact eV
   rw[r e,BY a]at b;rw[<-b,BY (by decide)]at hf;exact fI c [.tmp 2] (by rw[<-hf];exact eR)
  .have e:k<l.length:=by exact eV
   have q:(k:Int)<(l.length:Int):=Do.2 e;rw[r e,As (by rw[a];simp)]at b;refine AJ (ι:={m:Nat//m<=k/\((l.take m).any λy=>Ah y.1 (l.getD k f0V).1)=false}) (λm=>⟨[(0,.p Eo d),(3,.p F4 all),(4,.p (.int .i64) (i:Int)),(5,.p iW l),(6,.p (.int .i64) (k:Int)),(7,.p (.int .i64) (m.1:Int))],[]⟩) (λm=>k-m.1) ⟨0,IS _,rfl⟩ (eW []) (λm=>?_)
   obtain⟨m,B,g⟩:=m;have s:=λh:m<l.length=>M8 l f0V (λy=>Ah y.1 (l.getD k f0V).1) h;simp only;repeat'(first|exact trivial|apply eS rfl|apply AB|refine rX c ?_ ?_|refine rC ?_ ?_<;>intro a<;>try(cases a;done))
   .have h1:(m:Int)<(k:Int):=a;exact⟨by exact eV,q⟩
   .have f:m<k:=Do.1 (by assumption);have n:=s (by omega);have t:((l.take k).any λy=>Ah y.1 (l.getD k f0V).1)=true:=by
     rw[UA];exact⟨l.getD m f0V,by
      rw[iS];refine⟨m,by omega,?_⟩;simp[AS,show m<l.length by omega],a⟩
    rw[BY t]at b;rw[<-b,BY (by decide)]at hf;exact fI c [.tmp 2] (by rw[<-hf];exact eR)
   .omega
   .have f:m<k:=Do.1 (by assumption);have n:=s (by omega);refine⟨⟨m+1,by omega,?_⟩,by simp only;omega,AC [] rfl rfl ?_ ?_⟩
    .rw[n,g];exact a
    .exact eN
    exact eN
   .exact q
   .have f:m=k:=by omega
    subst f;rw[As (by rw[g];simp),BY a]at b;rw[<-b,BY (by decide)]at hf;exact fI c [.tmp 2] (by rw[<-hf];exact eR)
   .have:=x;simp only[AO]at this;omega
   have f:m=k:=by omega
   subst f;rw[As (by rw[g];simp),As (by rw[a];simp)]at b;exact⟨⟨m+1,by omega,b⟩,by simp only;omega,eW []⟩
  .omega
  have e:l.drop k=[]:=On (Tn.1 a);rw[e]at b;rw[<-b,As (by simp[dcG])]at hf;exact⟨⟨i+1,by omega,hf⟩,by simp only;omega,eW []⟩
 have e:d.drop i=[]:=On (by exact eV);rw[e]at hf;exact fI c [.tmp 2] (by rw[<-hf];first|exact eR|refine Wf ?_;rfl)
end
section
attribute [local go_sem] dS dH L5 cs0
def S8 (s:ByteArray) (o:List ByteArray) (x:AK):List ByteArray:=if (GN x s).2=true then D9 o x.1 else o
def JQ (d:List AK) (s:ByteArray):List ByteArray:=d.foldl (S8 s) []
theorem o7 (s:ByteArray) (d:List AK) (k:Nat):(JQ (d.take k) s).length<=k:=by
 have key:∀(l:List AK) (o:List ByteArray),(l.foldl (S8 s) o).length<=o.length+l.length:=by
  intro l;induction l with
  | nil=>intro o;simp
  | cons x l b =>
   intro o;have h1:=b (S8 s o x);have a:(S8 s o x).length<=o.length+1:=by
    unfold S8;split
    .exact L1 o x.1
    omega
   simp only[Tk,OS];omega
 have h1:=key (d.take k) [];have a:=Ub k d;unfold JQ;simp only[Ug]at h1;omega
def GR (d:List AK) (s:ByteArray):ByteArray×Bool:=if (B9 d (JQ d s)).length=1 then ((B9 d (JQ d s)).getD 0 ByteArray.empty,true) else (ByteArray.empty,false)
def d6:AZ:={ ins:=[Eo,T9],pre:=λ(d,_,_)=>Wn d/\List.length d<=256,out:=λ(d,s,_)=>[.p T9 (GR d s).1,.p .bool (GR d s).2] }
theorem jV:Ab Tryz.prog 167 d6:=by
 refine fK [0,1,4,5,6,7,9,10,14,26,39] Tryz.func167 Tryz.ntmps167 (AE jD (AE Rk (AE Wq AH))) ?_;rintro w0 O0 ⟨d,s,u⟩ c-⟨l,f⟩;have f:d.length<=256:=f;simp only[d6,AM];repeat'(first|exact trivial|apply eS rfl|refine rX c ?_ ?_)
 refine AJ (ι:={i:Nat//i<=d.length}) (λi=>⟨[(0,.p Eo d),(1,.p T9 s),(6,.p F4 (JQ (d.take i.1) s)),(7,.p (.int .i64) (i.1:Int))],[]⟩) (λi=>d.length-i.1) ⟨0,IS _⟩ (AC [] rfl rfl ?_ ?_) (λi=>?_)
 .exact eN
 .refine eM ?_;rfl
 obtain⟨i,hi⟩:=i;have hi:i<=d.length:=hi;have hn:=o7 s d i;have hs:=λh:i<d.length=>Ei (S8 s) d d0 [] h;have j:∀e,JQ e s=e.foldl (S8 s) []:=λ_=>rfl;rw[<-j,<-j]at hs;unfold S8 at hs;simp only;repeat'(first|exact trivial|apply eS rfl|apply AB|refine rX c ?_ ?_|refine rC ?_ ?_<;>intro a<;>try(cases a;done))
 .exact a
 .exact⟨by assumption,by omega⟩
 .exact eV
 .have b:i<d.length:=by exact eV
  have e:=hs b;rw[BY a]at e;refine⟨⟨i+1,by omega⟩,by simp only;omega,AC [] rfl rfl ?_ ?_⟩
  .exact eN
  simp only[e];exact eN
 .exact eV
 .have b:i<d.length:=by exact eV
  have e:=hs b;rw[As (by rw[a];simp)]at e;refine⟨⟨i+1,by omega⟩,by simp only;omega,AC [] rfl rfl ?_ ?_⟩
  .exact eN
  simp only[e];exact eN
 .exact⟨l,f,by omega⟩
 .have b:d.take i=d:=At (by exact eV);rw[b]at a ⊢;have h1:GR d s=(ByteArray.empty,false):=by
   unfold GR;rw[As (by omega)]
  exact fI c [.tmp 4,.tmp 5] (by rw[h1];first|exact eR|refine Wf ?_;first|rfl|exact⟨rfl,rfl⟩)
 .have g:((B9 d (JQ (d.take i) s)).length:Int)=1:=by simpa using a
  have k:(0:Int)<((B9 d (JQ (d.take i) s)).length:Int):=by rw[g];decide
  exact k
 have b:d.take i=d:=At (by exact eV);rw[b]at a ⊢;have g:((B9 d (JQ d s)).length:Int)=1:=by simpa using a
 have h1:GR d s=((B9 d (JQ d s)).getD 0 ByteArray.empty,true):=by
  unfold GR;rw[BY (by omega)]
 exact fI c [.tmp 4,.tmp 5] (by rw[h1];exact eR)
end
section
attribute [local go_sem] dS VQ yM A3e
def ZF (l:List AQ) (t:Int) (s:ByteArray) (o:List Int×Bool) (x:AK):List Int×Bool :=
 if (!(GN x s).2||!Nv l (DP l x.1) t)=true then o else (GM o.1 (l.getD (DP l (GN x s).1).toNat c0).2,true)
def XE (d:List AK) (l:List AQ) (t:Int) (s:ByteArray):List Int×Bool:=d.foldl (ZF l t s) ((l.getD 0 c0).2,false)
def A7o (d:List AK) (l:List AQ):Prop:=(∀x∈d,0<=DP l x.1)/\∀x∈d,∀y∈x.2.2,0<=DP l y.2
theorem jW (s:ByteArray):∀(l:List (ByteArray×ByteArray)),(jC s l).2=true->∃y∈l,y.2=(jC s l).1
 | [],h=>by cases h
 | x :: l,h=>by
  simp only[jC]at h ⊢;split at h
  .rename_i h1;rw[BY h1];exact⟨x,by simp,rfl⟩
  rename_i h1;rw[As h1];obtain⟨y,a,e⟩:=jW s l h;exact⟨y,by simp[a],e⟩
theorem A7o.value {d:List AK} {l:List AQ} (h:A7o d l) {x:AK} (b:x∈d) {s:ByteArray} (a:(GN x s).2=true):0<=DP l (GN x s).1:=by
 obtain⟨y,c,e⟩:=jW s x.2.2 a;have:=h.2 x b y c;rw[e]at this;exact this
theorem A3C {l:List AQ} (t:Int) (s:ByteArray) (x:AK) {o:List Int×Bool} (h:o.1.length<=64):(ZF l t s o x).1.length<=64:=by
 unfold ZF;split
 .exact h
 exact Tp (jE _ _) h
theorem XF {l:List AQ} (t:Int) (s:ByteArray):∀(d:List AK) {o:List Int×Bool},o.1.length<=64->(d.foldl (ZF l t s) o).1.length<=64
 | [],_,h=>h
 | x :: d,_,h=>by rw[Tk];exact XF t s d (A3C t s x h)
theorem jX (s:ByteArray):∀(l:List AQ) (k:Nat),Rq s k l<((k+l.length:Nat):Int)
 | [],k=>by simp only[Rq];omega
 | x :: l,k=>by
  simp only[Rq];split
  .simp only[OS];omega
  have:=jX s l (k+1);simp only[OS];omega
theorem S9 (l:List AQ) (s:ByteArray):DP l s<(l.length:Int):=by
 have:=jX s l 0;rw[Yj]at this;exact this
def A7p:AZ:={ ins:=[Eo,Jo,T3,T9],pre:=λ(d,l,t,_,_)=>A7o d l/\((0:Int)<=t/\t<(List.length l:Int))/\List.length l<=256/\(∀x∈(l:List AQ),x.2.length<=64),out:=λ(d,l,t,s,_)=>[.p BM (XE d l t s).1,.p .bool (XE d l t s).2] }
theorem A3D:Ab Tryz.prog 158 A7p:=by
 refine fK [0,1,2,3,8,9,10,11,12,13,14,22,48] Tryz.func158 Tryz.ntmps158 (AE jD (AE Zy (AE yN (AE A3f AH)))) ?_;rintro w0 O0 ⟨d,l,t,s,u⟩ f ⟨⟨A,G⟩,-⟩ ⟨r,j,n,w⟩;have n:l.length<=256:=n;have F:∀x∈(l:List AQ),x.2.length<=100000:=λx h=>Tp (w x h) (by decide);have q:0<List.length l:=Do.1 (AE6 j.1 j.2);simp only[AO]at A;simp only[A7p,AM];repeat'(first|exact trivial|apply eS rfl|refine rX f ?_ ?_)
 .exact Do.2 q
 have m:XE d l t s=d.foldl (ZF l t s) ((l.getD 0 c0).2,false):=rfl;have y:(l.getD 0 c0).2.length<=64:=w _ (AF l c0 q);have z:(List.getD l 0 (ByteArray.empty,[])).2=(l.getD 0 c0).2:=rfl;rw[z];generalize (l.getD 0 c0).2=c at *;refine AJ (ι:={i:Nat//i<=d.length}) (λi=>⟨[(0,.p Eo d),(1,.p Jo l),(2,.p T3 t),(3,.p T9 s),(10,.p .bool ((d.take i.1).foldl (ZF l t s) (c,false)).2),(11,.p BM ((d.take i.1).foldl (ZF l t s) (c,false)).1),(12,.p (.int .i64) (i.1:Int))],[]⟩) (λi=>d.length-i.1) ⟨0,IS _⟩ (AC [] rfl rfl ?_ ?_) (λi=>?_)
 .exact eN
 .refine eM ?_;exact⟨rfl,rfl⟩
 obtain⟨i,hi⟩:=i;have hi:i<=d.length:=hi;have B:=XF (l:=l) t s (d.take i) (o:=(c,false)) y;have hs:=λh:i<d.length=>Ei (ZF l t s) d d0 (c,false) h;have E:=λh:i<d.length=>r.1 _ (AF d d0 h);have D:=λ(h:i<d.length) (g:(GN (d.getD i d0) s).2=true)=>r.value (AF d d0 h) g;have k:∀o x,ZF l t s o x=(if (!(GN x s).2||!Nv l (DP l x.1) t)=true then o else (GM o.1 (l.getD (DP l (GN x s).1).toNat c0).2,true)):=λ_ _=>rfl;generalize v:(d.take i).foldl (ZF l t s) (c,false)=o at *;simp only;repeat'(first|exact trivial|apply eS rfl|apply AB|refine rX f ?_ ?_|refine rC ?_ ?_<;>intro a<;>try(cases a;done))
 .exact a
 .have b:i<d.length:=Do.1 a;exact⟨λ_=>a,λ_=>⟨⟨E b,S9 _ _⟩,j,F⟩⟩
 .exact eV
 .have b:i<d.length:=Do.1 (by assumption);have e:=hs b;rw[k,BY (by rw[UI,TO,TO];exact a)]at e;refine⟨⟨i+1,by omega⟩,by simp only;omega,AC [] rfl rfl ?_ ?_⟩
  .exact eN
  refine eM ?_;rw[e];exact⟨rfl,rfl⟩
 .have b:i<d.length:=Do.1 (by assumption);exact⟨⟨D b a.1,S9 _ _⟩,Tp B (by decide)⟩
 .exact eV
 .have b:i<d.length:=Do.1 (by assumption);have e:=hs b;have C:¬(!(GN (d.getD i d0) s).2||!Nv l (DP l (d.getD i d0).1) t)=true:=by
   rw[UI,TO,TO];rintro (h|h)
   .rw[show (GN (d.getD i d0) s).2=true from a.1]at h;cases h
   rw[show Nv l (DP l (d.getD i d0).1) t=true from a.2]at h;cases h
  rw[k,As C]at e;refine⟨⟨i+1,by omega⟩,by simp only;omega,AC [] rfl rfl ?_ ?_⟩
  .exact eN
  refine eM ?_;rw[e];exact⟨rfl,rfl⟩
 have b:d.take i=d:=At (Tn.1 a);rw[b]at v;rw[v]at m;exact fI f [.tmp 8,.tmp 9] (by rw[m];exact eR)
end
theorem TA:∀ {l:List AK},Ly l=0->∀x∈l,x.2.1.length<=256/\x.2.2.length<=256
 | [],_,x,a=>by cases a
 | y :: l,h,x,a=>by
  simp only[Ly]at h;split at h
  .cases h
  rename_i h1;rcases By.1 a with rfl|a
  .exact⟨by omega,by omega⟩
  exact TA h x a
theorem Ko {d:List AK} (h:BU d=0):∀x∈d,x.2.1.length<=256/\x.2.2.length<=256:=by
 have h1:Ew d=0:=by
  unfold BU at h;split at h
  .rename_i h1;exact absurd h h1
  rename_i h1;exact IN h1
 unfold Ew at h1;split at h1
 .cases h1
 exact TA h1
theorem Ot {d:List AK} (h:BU d=0):∀x∈A5 d,x.2.length<=64:=by
 intro x e;obtain⟨-,a,-⟩:=BD h;obtain⟨b,c,rfl⟩:=EX.1 e;exact QY (Oq a) b c
theorem jY {all:List ByteArray} {l:List FV}:∀ {r:List FV} {k:Nat},dcG all l k r=0->∀y∈r,Ag all y.2=true
 | [],_,_,y,a=>by cases a
 | x :: r,k,h,y,a=>by
  simp only[dcG]at h;split at h
  .cases h
  split at h
  .cases h
  split at h
  .cases h
  rename_i b;rcases By.1 a with rfl|a
  .simpa using b
  exact jY h y a
theorem Z6 {all:List ByteArray}:∀ {l:List AK},d5 all l=0->∀x∈l,∀y∈x.2.2,Ag all y.2=true
 | [],_,x,a=>by cases a
 | z :: l,h,x,a=>by
  simp only[d5]at h;split at h
  .rename_i h1;exact absurd h h1
  rename_i h1;rcases By.1 a with rfl|a
  .exact jY (IN h1)
  exact Z6 h x a
theorem yR {d:List AK} (h:BU d=0) (b:L9 d=0):A7o d (A5 d) :=
 ⟨λx a=>S7 h a,λx a y c=>S6 h (Z6 b x a y c)⟩
theorem XG (l:List (List Int)) (i k:Nat):l <+: Gw l i k:=by
 unfold Gw;split
 .exact AE2 _ _
 exact Uj _
theorem XH (i:Nat):∀(n k:Nat) (l:List (List Int)),l <+: Gx i n k l
 | 0,_,l=>Uj l
 | n+1,k,l=>by
  unfold Gx;split
  .exact(XG l i k).trans (XH i n (k+1) _)
  exact Uj l
theorem XI:∀(n i:Nat) (l:List (List Int)),l <+: JP n i l
 | 0,_,l=>Uj l
 | n+1,i,l=>by
  unfold JP;split
  .exact(XH i i 0 l).trans (XI n (i+1) _)
  exact Uj l
theorem Qa {l m:List (List Int)} (h:l <+: m) {k:Nat} (hk:k<l.length):m.getD k []=l.getD k []:=by
 obtain⟨t,rfl⟩:=h;simp only[AS];rw[Tz hk]
def LJ (l:List (List Int)) (q p:Nat):Prop:=GM (l.getD q []) (l.getD p [])=[]\/GM (l.getD q []) (l.getD p [])∈l
theorem LJ.pre {l m:List (List Int)} (h:l <+: m) {q p:Nat} (b:q<l.length) (hp:p<l.length) (a:LJ l q p):LJ m q p:=by
 unfold LJ at a ⊢;rw[Qa h b,Qa h hp];rcases a with a|a
 .exact .inl a
 exact .inr (h.subset a)
theorem A7q {l:List (List Int)} {b:List Int} (h:oO l b=true):b∈l:=by
 obtain⟨x,a,e⟩:=UA.1 h;have:x=b:=by simpa[Jp] using e
 rw[<-this];exact a
theorem o8 {l:List (List Int)} {i k:Nat} (hi:i<l.length) (hk:k<l.length):LJ (Gw l i k) i k:=by
 have hp:=XG l i k;unfold LJ;rw[Qa hp hi,Qa hp hk];unfold Gw;split
 .right;simp
 rename_i a;rw[An,DO,TO]at a;by_cases h0:0<((GM (l.getD i []) (l.getD k [])).length:Int)
 .right;cases hh:oO l (GM (l.getD i []) (l.getD k [])) with
  | true=>exact A7q hh
  | false=>exact absurd ⟨h0,hh⟩ a
 left;exact Tv (by omega)
theorem XJ {i:Nat}:∀ {n k:Nat} {l:List (List Int)},n+k=i->i<l.length->(Gx i n k l).length<=256->(∀p,p<k->LJ l i p)->∀p,p<i->LJ (Gx i n k l) i p
 | 0,k,l,hn,hi,a,h=>λp hp=>h p (by omega)
 | n+1,k,l,hn,hi,a,h=>by
  unfold Gx at a ⊢;split at a
  .rename_i b;rw[BY b];have hp:=XG l i k;refine XJ (by omega) (Us hi hp.length_le) a λp c=>?_;by_cases e:p=k
   .subst e;exact o8 hi (by omega)
   exact(h p (by omega)).pre hp hi (by omega)
  rename_i b;exact absurd (by omega:l.length<=256) b
theorem XK:∀ {n i:Nat} {l:List (List Int)},257<=n+i->(JP n i l).length<=256->i<=l.length->(∀q p,p<q->q<i->LJ l q p)->∀q p,p<q->q<(JP n i l).length->LJ (JP n i l) q p
 | 0,i,l,hn,a,f,h=>λq p c d=>by
  have j:l.length<=256:=a;omega
 | n+1,i,l,hn,a,f,h=>by
  unfold JP at a ⊢;split at a
  .rename_i b;rw[BY b];have hp:=XH i i 0 l;have k:=hp.length_le;have g:=(XI n (i+1) (Gx i i 0 l)).length_le;refine XK (by omega) a (by omega) λq p c d=>?_;by_cases e:q=i
   .subst e;exact XJ (by omega) b.1 (by omega) (λp hp=>by omega) p c
   exact(h q p c (by omega)).pre hp (by omega) (by omega)
  rename_i b;rw[As b];intro q p c d;exact h q p c (by
   refine IN λhh=>b ⟨by omega,a⟩)
theorem d7 {c:List (List Int)} (a:(A8 c).length<=256):∀q p,p<q->q<(A8 c).length->LJ (A8 c) q p :=
 XK (by omega) a (IS _) (λq p _ h=>by omega)
theorem A3E (a b:List Int) (k:Nat):(GM a b).getD k 0=if k<a.length then B2 .and .u64 (a.getD k 0) (b.getD k 0) else 0:=by
 unfold GM;rw[QV];split
 .rename_i h;exact NA .and a b h
 rename_i h;rw[AS,Ts (by rw[EV];omega)];rfl
theorem Gk {b:List Int} {k:Nat} (h:¬k<b.length):b.getD k 0=0:=by
 rw[AS,Ts (by omega)];rfl
theorem yS {a b:List Int} (ha:Ix a) (c:Ix b) (i:Nat):BW (GM a b) i=(BW a i&&BW b i):=by
 unfold BW;rw[A3E];split
 .rw[H9 (BE ha _) (BE c _),To,Nat.testBit_and]
 rename_i h;rw[Gk h];simp
theorem yT {a b:List Int} (ha:Ix a) (d:Ix b):Ix (GM a b):=by
 refine Oh λx c=>?_;unfold GL at c;obtain⟨i,-,rfl⟩:=If.1 c;rw[Ha,H9 (BE ha _) (BE d _)];have h1:=BE ha i;have e:(a.getD i 0).toNat &&& (b.getD i 0).toNat<=(a.getD i 0).toNat:=ADU;have f:=h1.1;have g:=h1.2;exact⟨VA _,by omega⟩
theorem Rx (b:List Int):∀n,Cj b n=0\/b.getD (Cj b n-1) 0≠0
 | 0=>.inl rfl
 | n+1=>by
  unfold Cj;split
  .exact Rx b n
  rename_i h;right;simpa using h
theorem A7r {n:Nat} (h0:n≠0) (h1:n<18446744073709551616):∃r,r<64/\n.testBit r=true:=by
 refine IN λb=>h0 ?_;refine Nat.eq_of_testBit_eq λr=>?_;rw[Nat.zero_testBit];by_cases c:r<64
 .cases a:n.testBit r with
  | false=>rfl
  | true=>exact absurd ⟨r,c,a⟩ b
 have e:(18446744073709551616:Nat)=2 ^ 64:=by decide
 rw[e]at h1;exact Nat.testBit_lt_two_pow (Us h1 (Nat.pow_le_pow_right (by decide) (by omega)))
theorem A3F {b:List Int} (a:Ix b) {k:Nat} (h:b.getD k 0≠0):∃i,BW b i=true:=by
 have hu:=BE a k;have h1:=hu.1;have d:=hu.2;obtain⟨r,e,c⟩:=A7r (n:=(b.getD k 0).toNat) (by omega) (by omega);refine⟨64*k+r,?_⟩;unfold BW;rw[show (64*k+r) / 64=k by omega,show (64*k+r) % 64=r by omega];exact c
theorem o9 {b:List Int} (a:Ix b) (h:BO b≠[]):∃i,BW b i=true:=by
 rcases Rx b b.length with h1|h1
 .exact absurd (by unfold BO;rw[h1];rfl) h
 exact A3F a h1
theorem Z7 {a b:List Int} (ha:Ix a) (c:Ix b) (h:∀i,BW a i=true->BW b i=true) (k:Nat):B2 .andNot .u64 (a.getD k 0) (b.getD k 0)=0:=by
 rw[Rs];have:(BitVec.ofInt 64 (a.getD k 0) &&& ~~~BitVec.ofInt 64 (b.getD k 0))=0#64:=by
  apply BitVec.eq_of_getLsbD_eq;intro r e;rw[BitVec.getLsbD_and,BitVec.getLsbD_not,<-oF,<-oF,FP (BE ha k),FP (BE c k)];have hk:=h (64*k+r);unfold BW at hk;rw[show (64*k+r) / 64=k by omega,show (64*k+r) % 64=r by omega]at hk;cases d:(a.getD k 0).toNat.testBit r with
  | false=>simp
  | true=>rw[hk d];simp
 rw[this];rfl
theorem XL {a b:List Int} (ha:Ix a) (c:Ix b):Eh a b=true↔∀i,BW a i=true->BW b i=true:=by
 constructor
 .exact λh i hi=>L7 ha c h hi
 intro h;unfold Eh Rl BO;have h1:Cj (GL .andNot a b a.length) (GL .andNot a b a.length).length=0:=by
  rw[EV];exact Ru λk hk=>by rw[NA _ _ _ hk];exact Z7 ha c h k
 rw[h1];rfl
section
attribute [local go_sem] Rw Wu o6 d6 A7p
def Ou (d:List AK) (l:List AQ) (t:Nat) (s:ByteArray):Bool:=(XE d l (t:Int) s).2&&((XE d l (t:Int) s).1.length:Int)==0
def yU (d:List AK) (l:List AQ) (f:List ByteArray) (t:Nat):Bool:=f.any (Ou d l t)
def MA (d:List AK) (l:List AQ) (f:List ByteArray) (n:Nat):Bool:=(List.range n).any (yU d l f)
theorem jZ (d:List AK) (l:List AQ) (f:List ByteArray) (n:Nat):MA d l f (n+1)=(MA d l f n||yU d l f n):=by
 unfold MA;rw[UQ,AD5];simp
def Bb (d:List AK):Int :=
 if (B7 d).2≠0 then (B7 d).2 else if 64<(Dk d).length then 7 else if L9 d≠0 then L9 d else
 if ((Dk d).all λs=>(GR d s).2)=false then 10 else if MA d (B7 d).1 (Dk d) (B7 d).1.length=true then 11 else 0
def VR:AZ:={ ins:=[Eo],pre:=λ_=>True,out:=λ(d,_)=>[.p GK (Bb d)] }
theorem Z8:Ab Tryz.prog 156 VR:=by
 refine fK [0,2,3,4,5,6,7,9,10,11,12,13,20,26,30,35,48,52,58,77] Tryz.func156 Tryz.ntmps156 (AE QZ (AE Wv (AE A3B (AE jV (AE A3D AH))))) ?_;rintro w0 O0 ⟨d,u⟩ b - -;simp only[VR,AM];repeat'(first|exact trivial|apply eS rfl|refine rX b ?_ ?_|refine rC ?_ ?_<;>intro a<;>try(cases a;done))
 .have h1:Bb d=(B7 d).2:=by unfold Bb;rw[BY a]
  exact fI b [.tmp 2] (by rw[h1];exact eR)
 .have c:(B7 d).2=0:=by simpa using a
  obtain⟨e,-,-⟩:=B5 c;obtain⟨-,r,-⟩:=BD e;exact⟨r,λx L=>(Ko e x L).2⟩
 .have c:(B7 d).2=0:=by simpa using ‹((B7 d).2 != 0)=false›
  have h1:Bb d=7:=by
   unfold Bb;rw[As (by rw[c];simp),BY (by omega)]
  exact fI b [.tmp 2] (by rw[h1];exact eR)
 .have c:(B7 d).2=0:=by simpa using ‹((B7 d).2 != 0)=false›
  obtain⟨e,-,-⟩:=B5 c;exact(BD e).2.1
 .have c:(B7 d).2=0:=by simpa using ‹((B7 d).2 != 0)=false›
  have h1:Bb d=L9 d:=by
   unfold Bb;rw[As (by rw[c];simp),As (by omega),BY a]
  exact fI b [.tmp 2] (by rw[h1];exact eR)
 have c:(B7 d).2=0:=by simpa using ‹((B7 d).2 != 0)=false›
 have v:L9 d=0:=by simpa using a
 obtain⟨e,C,B⟩:=B5 c;obtain⟨H,r,-⟩:=BD e;have E:=yR e v;have K:=Ot e;have M:=A7l e;have D:(A5 d).length<=256:=by rw[IC];exact C
 have g:Bb d=if ((Dk d).all λs=>(GR d s).2)=false then 10 else if MA d (B7 d).1 (Dk d) (B7 d).1.length=true then 11 else 0:=by
  unfold Bb;rw[As (by rw[c];simp),As (by omega),As (by rw[v];simp)]
 rw[B]at g ⊢;generalize A5 d=l at *;generalize Dk d=f at *;refine AJ (ι:={i:Nat//i<=f.length/\((f.take i).all λs=>(GR d s).2)=true}) (λi=>⟨[(0,.p Eo d),(3,.p Jo l),(5,.p F4 f),(7,.p (.int .i64) (i.1:Int))],[]⟩) (λi=>f.length-i.1) ⟨0,IS _,rfl⟩ (eW []) (λi=>?_)
 obtain⟨i,hi,n⟩:=i;have G:=λh:i<f.length=>Jq f ByteArray.empty (λs=>(GR d s).2) h;simp only;repeat'(first|exact trivial|apply eS rfl|apply AB|refine rX b ?_ ?_|refine rC ?_ ?_<;>intro a<;>try(cases a;done))
 .exact⟨a,H,r⟩
 .have j:i<f.length:=Do.1 (by assumption);have z:(f.all λs=>(GR d s).2)=false:=by
   rw[Ym];intro h;have:=ON.1 h _ (AF f ByteArray.empty j);rw[show (GR d (f.getD i ByteArray.empty)).2=false from a]at this;cases this
  rw[BY z]at g;exact fI b [.tmp 2] (by rw[g];exact eR)
 .omega
 .have j:i<f.length:=Do.1 (by assumption);refine⟨⟨i+1,j,?_⟩,by simp only;omega,AC [] rfl rfl ?_ ?_⟩
  .rw[G j,n];exact a
  .exact eN
  exact eN
 have j:f.take i=f:=At (Tn.1 a);rw[j]at n;rw[As (by rw[n];simp)]at g;refine AJ (ι:={t:Nat//t<=l.length/\MA d l f t=false}) (λt=>⟨[(0,.p Eo d),(3,.p Jo l),(5,.p F4 f),(10,.p (.int .i64) (t.1:Int))],[]⟩) (λt=>l.length-t.1) ⟨0,IS _,rfl⟩ (eW []) (λt=>?_)
 obtain⟨t,N,y⟩:=t;have J:=jZ d l f t;simp only;repeat'(first|exact trivial|apply eS rfl|refine rX b ?_ ?_|refine rC ?_ ?_<;>intro a<;>try(cases a;done))
 .have w:t<l.length:=Do.1 a;refine AJ (ι:={k:Nat//k<=f.length/\(f.take k).any (Ou d l t)=false}) (λk=>⟨[(0,.p Eo d),(3,.p Jo l),(5,.p F4 f),(10,.p (.int .i64) (t:Int)),(11,.p (.int .i64) (k.1:Int))],[]⟩) (λk=>f.length-k.1) ⟨0,IS _,rfl⟩ (eW []) (λk=>?_)
  obtain⟨k,hk,o⟩:=k;have F:=λh:k<f.length=>M8 f ByteArray.empty (Ou d l t) h;simp only;repeat'(first|exact trivial|apply eS rfl|apply AB|refine rX b ?_ ?_|refine rC ?_ ?_<;>intro a<;>try(cases a;done))
  .exact⟨a,E,by assumption,D,K⟩
  .have m:k<f.length:=Do.1 (by assumption);have q:Ou d l t (f.getD k ByteArray.empty)=true:=by
    unfold Ou;rw[An,UP];exact a
   have A:MA d l f l.length=true:=by
    unfold MA;rw[UA];exact⟨t,Tx.2 w,Iu f ByteArray.empty _ m q⟩
   rw[BY A]at g;exact fI b [.tmp 2] (by rw[g];exact eR)
  .omega
  .have m:k<f.length:=Do.1 (by assumption);have q:Ou d l t (f.getD k ByteArray.empty)=false:=by
    rw[Ym];unfold Ou;intro h;rw[An,UP]at h;exact a h.1 h.2
   refine⟨⟨k+1,m,?_⟩,by simp only;omega,AC [] rfl rfl ?_ ?_⟩
   .rw[F m,o,q];rfl
   .exact eN
   exact eN
  .omega
  have m:f.take k=f:=At (Tn.1 a);rw[m]at o;refine⟨⟨t+1,w,?_⟩,by simp only;omega,AC [] rfl rfl ?_ ?_⟩
  .rw[J,y];exact o
  .exact eN
  exact eN
 have I:t=l.length:=by exact eV
 subst I;rw[As (by rw[y];simp)]at g;exact fI b [.tmp 2] (by rw[g];exact eR)
end
section
attribute [local go_sem] VR Rw Wu d6 VQ
abbrev Z9:=ByteArray×Int
theorem DE {d:List AK} (h:Bb d=0):(B7 d).2=0/\(Dk d).length<=64/\L9 d=0:=by
 unfold Bb at h;split at h
 .rename_i h1;exact absurd h h1
 rename_i h1;split at h
 .cases h
 rename_i b;split at h
 .rename_i a;exact absurd h a
 rename_i a;exact⟨IN h1,by omega,IN a⟩
def XM (d:List AK) (s:ByteArray):Z9:=(s,DP (A5 d) (GR d s).1)
def Ej (d:List AK):List Z9×Int:=if Bb d≠0 then ([],Bb d) else ((Dk d).map (XM d),0)
theorem CF {α β:Type} (f:α->β) (l:List α) (d:α) {k:Nat} (h:k<l.length):(l.take (k+1)).map f=(l.take k).map f++[f (l.getD k d)]:=by
 rw[Ax l d h,UH];rfl
theorem d8 {α β:Type} (f:α->β) (l:List α) {k:Nat} (h:k<=l.length):((l.take k).map f).length=k:=by simp[h]
def Ry:AZ:={ ins:=[Eo],pre:=λ_=>True,out:=λ(d,_)=>[.p sL (Ej d).1,.p GK (Ej d).2] }
theorem j4:Ab Tryz.prog 120 Ry:=by
 refine fK [0,2,3,4,5,7,8,9,10,15,27] Tryz.func120 Tryz.ntmps120 (AE Z8 (AE QZ (AE Wv (AE jV (AE Zy AH))))) ?_;rintro w0 O0 ⟨d,u⟩ g - -;simp only[Ry,AM];repeat'(first|exact trivial|apply eS rfl|refine rX g ?_ ?_|refine rC ?_ ?_<;>intro a<;>try(cases a;done))
 .have h1:Ej d=([],Bb d):=by unfold Ej;rw[BY a]
  exact fI g [.tmp 2,.tmp 3] (by rw[h1];exact eR)
 .have c:Bb d=0:=by simpa using a
  obtain⟨k,-,-⟩:=DE c;obtain⟨b,-,-⟩:=B5 k;exact⟨(BD b).2.1,λx r=>(Ko b x r).2⟩
 have c:Bb d=0:=by simpa using a
 obtain⟨k,s,-⟩:=DE c;obtain⟨b,-,m⟩:=B5 k;obtain⟨q,l,-⟩:=BD b;have o:Ej d=((Dk d).map (XM d),0):=by unfold Ej;rw[As (by rw[c];simp)]
 rw[m];generalize Dk d=f at *;refine AJ (ι:={i:Nat//i<=f.length}) (λi=>⟨[(0,.p Eo d),(5,.p Jo (A5 d)),(7,.p F4 f),(8,.sr 49 A2Z 0 ((f.take i.1).map (XM d)).length),(9,.p (.int .i64) (i.1:Int))],[(49,.arr 163 A2Z ((f.take i.1).map (XM d)))]⟩) (λi=>f.length-i.1) ⟨0,IS _⟩ (eW [(49,.nil)]) (λi=>?_)
 obtain⟨i,hi⟩:=i;have n:=d8 (XM d) f hi;have hs:=λh:i<f.length=>CF (XM d) f ByteArray.empty h;simp only;repeat'(first|exact trivial|apply eS rfl|apply AB|refine rX g ?_ ?_|refine rC ?_ ?_<;>intro a<;>try(cases a;done))
 .exact⟨a,q,l⟩
 .refine⟨a,?_⟩;rw[n];simp only[AO];omega
 .omega
 .have j:i<f.length:=Do.1 a;have e:=hs j;refine⟨⟨i+1,j⟩,by simp only;omega,AC [(49,.nm 49)] rfl rfl ?_ ?_⟩
  .simp only[e];refine eM ?_;rfl
  simp only[e];exact eN
 have j:f.take i=f:=At (Tn.1 a);rw[j];refine E6 [49] ?_;exact fI g [.tmp 2,.tmp 3] (by rw[o];exact eR)
end
section
attribute [local go_sem] VR Rw Wu A7p oP
def d9 (d:List AK) (l:List AQ) (f:List ByteArray) (t:Nat) (n:Nat):List (Int×Int) :=
 ((List.range n).filter λ(i:Nat)=>(XE d l (t:Int) (f.getD i ByteArray.empty)).2).map λ(i:Nat)=>((i:Int),dR l (XE d l (t:Int) (f.getD i ByteArray.empty)).1)
def MB (d:List AK) (l:List AQ) (f:List ByteArray) (n:Nat):List (List (Int×Int)):=(List.range n).map λt=>d9 d l f t f.length
def Bj (d:List AK):List (List (Int×Int))×Int:=if Bb d≠0 then ([],Bb d) else (MB d (A5 d) (Dk d) (A5 d).length,0)
theorem A10 (d:List AK) (l:List AQ) (f:List ByteArray) (t n:Nat):d9 d l f t (n+1)=d9 d l f t n++if (XE d l (t:Int) (f.getD n ByteArray.empty)).2=true then [((n:Int),dR l (XE d l (t:Int) (f.getD n ByteArray.empty)).1)] else []:=by
 unfold d9;rw[UQ,AA5,UH]
 congr 1
 rw[Ue,ADu];split<;>rfl
theorem A3G (d:List AK) (l:List AQ) (f:List ByteArray) (t n:Nat):(d9 d l f t n).length<=n:=by
 unfold d9;rw[OF];exact Tp (Ul _ _) (by simp)
theorem pA (d:List AK) (l:List AQ) (f:List ByteArray) (n:Nat):MB d l f (n+1)=MB d l f n++[d9 d l f n f.length]:=by simp[MB,UQ]
theorem aA (d:List AK) (l:List AQ) (f:List ByteArray) (n:Nat):(MB d l f n).length=n:=by simp[MB]
theorem A3H {d:List AK} {l:List AQ} (h:∀x∈l,x.2.length<=64) (t:Int) (s:ByteArray):(XE d l t s).1.length<=64:=by
 unfold XE;refine XF t s d ?_;rw[AS];cases hh:l[0]? with
 | none=>simp
 | some x=>exact h x (UW hh)
def XN:AZ:={ ins:=[Eo],pre:=λ_=>True,out:=λ(d,_)=>[.p A5X (Bj d).1,.p GK (Bj d).2] }
theorem pB:Ab Tryz.prog 117 XN:=by
 refine fK [0,2,3,4,5,7,8,9,10,11,12,13,17,29,35,49] Tryz.func117 Tryz.ntmps117 (AE Z8 (AE QZ (AE Wv (AE A3D (AE A3p AH))))) ?_;rintro w0 O0 ⟨d,u⟩ e - -;simp only[XN,AM];repeat'(first|exact trivial|apply eS rfl|refine rX e ?_ ?_|refine rC ?_ ?_<;>intro a<;>try(cases a;done))
 .have h1:Bj d=([],Bb d):=by unfold Bj;rw[BY a]
  exact fI e [.tmp 2,.tmp 3] (by rw[h1];exact eR)
 .have h:Bb d=0:=by simpa using a
  obtain⟨m,-,-⟩:=DE h;obtain⟨b,-,-⟩:=B5 m;exact⟨(BD b).2.1,λx z=>(Ko b x z).2⟩
 have h:Bb d=0:=by simpa using a
 obtain⟨m,B,o⟩:=DE h;obtain⟨b,j,r⟩:=B5 m;obtain⟨D,A,-⟩:=BD b;have y:Bj d=(MB d (A5 d) (Dk d) (A5 d).length,0):=by unfold Bj;rw[As (by rw[h];simp)]
 have w:=yR b o;have n:=Ot b;have v:(A5 d).length<=256:=by rw[IC];exact j
 rw[r];generalize A5 d=l at *;generalize Dk d=f at *;have q:=λt s=>A3H (d:=d) n t s;refine AJ (ι:={t:Nat//t<=l.length}) (λt=>⟨[(0,.p Eo d),(5,.p Jo l),(7,.p F4 f),(8,.sr 61 dF 0 (MB d l f t.1).length),(9,.p (.int .i64) (t.1:Int))],[(61,.arr 142 dF (MB d l f t.1))]⟩) (λt=>l.length-t.1) ⟨0,IS _⟩ (AC [(61,.nil)] rfl rfl ?_ ?_) (λt=>?_)
 .refine eM ?_;rfl
 .refine eM ?_;rfl
 obtain⟨t,E⟩:=t;have j:=aA d l f t;have hs:=pA d l f t;simp only;repeat'(first|exact trivial|apply eS rfl|refine rX e ?_ ?_|refine rC ?_ ?_<;>intro a<;>try(cases a;done))
 .refine AJ (ι:={i:Nat//i<=f.length}) (λi=>⟨[(0,.p Eo d),(5,.p Jo l),(7,.p F4 f),(8,.sr 61 dF 0 (MB d l f t).length),(9,.p (.int .i64) (t:Int)),(10,.sr 57 A30 0 (d9 d l f t i.1).length),(11,.p (.int .i64) (i.1:Int))],[(61,.arr 142 dF (MB d l f t)),(57,.arr 170 A30 (d9 d l f t i.1))]⟩) (λi=>f.length-i.1) ⟨0,IS _⟩ (AC [(61,.nm 61),(57,.nil)] rfl rfl ?_ ?_) (λi=>?_)
  .refine eM ?_;rfl
  .refine eM ?_;rfl
  obtain⟨i,hi⟩:=i;have C:=A3G d l f t i;have c:=A10 d l f t i;simp only;repeat'(first|exact trivial|apply eS rfl|apply AB|refine rX e ?_ ?_|refine rC ?_ ?_<;>intro a<;>try(cases a;done))
  .exact⟨a,w,by assumption,v,n⟩
  .refine⟨Tp (q _ _) (by decide),?_⟩;simp only[AO];omega
  .omega
  .have g:i<f.length:=Do.1 (by assumption);rw[BY a]at c;refine⟨⟨i+1,g⟩,by simp only;omega,AC [(61,.nm 61),(57,.nm 57)] rfl rfl ?_ ?_⟩
   .simp only[c];exact eN
   simp only[c];exact eN
  .omega
  .have g:i<f.length:=Do.1 (by assumption);rw[As (by rw[a];simp),UF]at c;refine⟨⟨i+1,g⟩,by simp only;omega,AC [(61,.nm 61),(57,.nm 57)] rfl rfl ?_ ?_⟩
   .simp only[c];exact eN
   simp only[c];exact eN
  .rw[j];simp only[AO];omega
  .omega
  have k:t<l.length:=Do.1 (by assumption);have g:i=f.length:=by omega
  subst g;refine⟨⟨t+1,k⟩,by simp only;omega,AC [(61,.nm 61)] rfl rfl ?_ ?_⟩
  .simp only[hs];exact eN
  simp only[hs];exact eN
 have k:t=l.length:=by omega
 subst k;refine E6 [61] ?_;exact fI e [.tmp 2,.tmp 3] (by rw[y];exact eR)
end
section
attribute [local go_sem] cs0
def LK (l:List ByteArray) (n:Nat):List FV:=(List.range n).map λk=>(l.getD (2*k) ByteArray.empty,l.getD (2*k+1) ByteArray.empty)
theorem XO (l:List ByteArray) (n:Nat):LK l (n+1)=LK l n++[(l.getD (2*n) ByteArray.empty,l.getD (2*n+1) ByteArray.empty)]:=by simp[LK,UQ]
theorem aB (l:List ByteArray) (n:Nat):(LK l n).length=n:=by simp[LK]
def eB (s:ByteArray):List ByteArray:=if Ah s ByteArray.empty=true then [] else [s]
def F8 (n s:ByteArray) (l:List ByteArray):AK:=(n,eB s,LK l (l.length / 2))
def A3I:AZ:={ ins:=[T9,T9,F4],pre:=λ(_,_,l,_)=>List.length l<=1000,out:=λ(n,s,l,_)=>[.p A0E (F8 n s l)] }
theorem A7s:Ab Tryz.prog 121 A3I:=by
 refine fK [0,1,2,6,7,8,12,20] Tryz.func121 Tryz.ntmps121 AH ?_;rintro w0 O0 ⟨n,s,l,u⟩ b-i;have i:l.length<=1000:=i;simp only[A3I,AM];repeat'(first|exact trivial|apply eS rfl|apply AB|refine rX b ?_ ?_|refine rC ?_ ?_<;>intro a<;>try(cases a;done))
 .have f:=a;refine E6 [14] ?_;refine AJ (ι:={k:Nat//2*k<=l.length}) (λk=>⟨[(2,.p F4 l),(6,.bp 6 [] 0),(7,.bp 7 [] 0),(8,.p (.int .i64) ((2*k.1:Nat):Int))],[(6,.box 158 true [.p T9 ByteArray.empty,.raw (.slice none 0 0),.raw (.slice none 0 0)]),(7,.box 158 true [.p T9 n,.p F4 [s],.sr 36 oA 0 (LK l k.1).length]),(36,.arr 161 oA (LK l k.1))]⟩) (λk=>l.length-2*k.1) ⟨0,IS _⟩ (AC [(6,.nm 6),(7,.nm 7),(36,.nil)] rfl rfl ?_ ?_) (λk=>?_)
  .first|exact eN|refine eM ?_
   exact⟨rfl,rfl⟩
  .first|exact eN|refine eM ?_
  obtain⟨k,hk⟩:=k;have g:=aB l k;have d:=XO l k;simp only;repeat'(first|exact trivial|apply eS rfl|apply AB|refine rX b ?_ ?_|refine rC ?_ ?_<;>intro a<;>try(cases a;done))
  .exact eV
  .refine⟨by exact eV,⟨by exact eV,by exact eV⟩,⟨by exact eV,by exact eV⟩,?_⟩;rw[g];simp only[AO];exact eV
  .exact eV
  .have c:2*k+1<l.length:=by exact eV
   have e:((2*k:Nat):Int)+1=((2*k+1:Nat):Int):=by omega
   refine⟨⟨k+1,by omega⟩,by simp only;omega,AC [(6,.nm 6),(7,.nm 7),(36,.nm 36)] rfl rfl ?_ ?_⟩
   .simp only[d];first|exact eN|refine eM ?_
    rw[e];rfl
   simp only[d];first|exact eN|refine eM ?_
   show ((2*k:Nat):Int)+2=((2*(k+1):Nat):Int);omega
  have c:k=l.length / 2:=by exact eV
  refine E6 [36] ?_;have h:F8 n s l=(n,[s],LK l k):=by
   unfold F8 eB;rw[<-c,As (by rw[show Ah s ByteArray.empty=false from f];simp)]
  exact fI b [.cell 6 158] (by rw[h];exact eR)
 have f:=a;refine AJ (ι:={k:Nat//2*k<=l.length}) (λk=>⟨[(2,.p F4 l),(6,.bp 6 [] 0),(7,.bp 7 [] 0),(8,.p (.int .i64) ((2*k.1:Nat):Int))],[(6,.box 158 true [.p T9 ByteArray.empty,.raw (.slice none 0 0),.raw (.slice none 0 0)]),(7,.box 158 true [.p T9 n,.p F4 ([]:List ByteArray),.sr 36 oA 0 (LK l k.1).length]),(36,.arr 161 oA (LK l k.1))]⟩) (λk=>l.length-2*k.1) ⟨0,IS _⟩ (AC [(6,.nm 6),(7,.nm 7),(36,.nil)] rfl rfl ?_ ?_) (λk=>?_)
 .first|exact eN|refine eM ?_
  exact⟨rfl,rfl⟩
 .first|exact eN|refine eM ?_
 obtain⟨k,hk⟩:=k;have g:=aB l k;have d:=XO l k;simp only;repeat'(first|exact trivial|apply eS rfl|apply AB|refine rX b ?_ ?_|refine rC ?_ ?_<;>intro a<;>try(cases a;done))
 .exact eV
 .refine⟨by exact eV,⟨by exact eV,by exact eV⟩,⟨by exact eV,by exact eV⟩,?_⟩;rw[g];simp only[AO];exact eV
 .exact eV
 .have c:2*k+1<l.length:=by exact eV
  have e:((2*k:Nat):Int)+1=((2*k+1:Nat):Int):=by omega
  refine⟨⟨k+1,by omega⟩,by simp only;omega,AC [(6,.nm 6),(7,.nm 7),(36,.nm 36)] rfl rfl ?_ ?_⟩
  .simp only[d];first|exact eN|refine eM ?_
   rw[e];rfl
  simp only[d];first|exact eN|refine eM ?_
  show ((2*k:Nat):Int)+2=((2*(k+1):Nat):Int);omega
 have c:k=l.length / 2:=by exact eV
 refine E6 [36] ?_;have h:F8 n s l=(n,([]:List ByteArray),LK l k):=by
  unfold F8 eB;rw[<-c,BY (show Ah s ByteArray.empty=true from f)]
 exact fI b [.cell 6 158] (by rw[h];exact eR)
end
section
attribute [local go_sem] A3I cs0 cs1 cs2 cs3 cs4 cs5 cs6 cs7 cs8
def Js:List AK:=[
 F8 { data:=#[116,111,112] } { data:=#[] } [],
 F8 { data:=#[108,105,115,116] } { data:=#[116,111,112] } [],
 F8 { data:=#[99,111,110,115] } { data:=#[108,105,115,116] } [{ data:=#[70,73,82,83,84] },{ data:=#[116,111,112] },{ data:=#[82,69,83,84] },{ data:=#[108,105,115,116] }],
 F8 { data:=#[110,117,108,108] } { data:=#[108,105,115,116] } [],
 F8 { data:=#[100,108,105,115,116] } { data:=#[116,111,112] } [{ data:=#[76,73,83,84] },{ data:=#[108,105,115,116] },{ data:=#[76,65,83,84] },{ data:=#[108,105,115,116] }],
 F8 { data:=#[105,110,100,101,120] } { data:=#[116,111,112] } [],
 F8 { data:=#[104,97,110,100,108,101] } { data:=#[105,110,100,101,120] } [],
 F8 { data:=#[101,118,101,110,116] } { data:=#[105,110,100,101,120] } [],
 F8 { data:=#[101,110,116,105,116,121] } { data:=#[105,110,100,101,120] } [],
 F8 { data:=#[114,101,108] } { data:=#[116,111,112] } [{ data:=#[76,65,66,69,76] },{ data:=#[104,97,110,100,108,101] }],
 F8 { data:=#[113,101,113] } { data:=#[116,111,112] } [{ data:=#[72,73,71,72] },{ data:=#[104,97,110,100,108,101] },{ data:=#[76,79,87] },{ data:=#[104,97,110,100,108,101] }],
 F8 { data:=#[115,101,109] } { data:=#[116,111,112] } [{ data:=#[84,79,80] },{ data:=#[104,97,110,100,108,101] },{ data:=#[73,78,68,69,88] },{ data:=#[105,110,100,101,120] },{ data:=#[82,69,76,83] },{ data:=#[100,108,105,115,116] },{ data:=#[67,79,78,83] },{ data:=#[100,108,105,115,116] }],
 F8 { data:=#[115,105,103,110] } { data:=#[116,111,112] } [{ data:=#[83,69,77] },{ data:=#[115,101,109] },{ data:=#[65,82,71,83] },{ data:=#[108,105,115,116] }]]
def MC:AZ:={ ins:=[],pre:=λ_=>True,out:=λ_=>[.p Eo Js] }
theorem pC:Ab Tryz.prog 63 MC:=by
 refine fKP [0] [3,6,12,14,16,18,20] [] Tryz.func63 Tryz.ntmps63 (AE A7s AH) ?_;rintro w0 O0 u a - -;simp only[MC,AM];repeat'(first|exact trivial|apply eS rfl|refine rX a ?_ ?_)
 exact fI a [.tmp 0] (by unfold Js;exact eR)
end
section
attribute [local go_sem] XN Rw A3z Ry
abbrev ID:=ByteArray×List Int×List Int×List (Int×Int)
abbrev AG:=List ID×List Z9
def Fm (l:List AQ) (v:List (List (Int×Int))) (n:Nat):List ID:=(List.range n).map λi=>((l.getD i c0).1,(l.getD i c0).2,jU l (i:Int),v.getD i [])
theorem pD (l:List AQ) (v:List (List (Int×Int))) (n:Nat):Fm l v (n+1)=Fm l v n++[((l.getD n c0).1,(l.getD n c0).2,jU l (n:Int),v.getD n [])]:=by simp[Fm,UQ]
theorem NE (l:List AQ) (v:List (List (Int×Int))) (n:Nat):(Fm l v n).length=n:=by simp[Fm]
def IE (d:List AK):AG:=(Fm (A5 d) (Bj d).1 (A5 d).length,(Ej d).1)
def BJ (d:List AK):AG×Int:=if (Bj d).2≠0 then (([],[]),(Bj d).2) else (IE d,0)
def Jt:AZ:={ ins:=[Eo],pre:=λ_=>True,out:=λ(d,_)=>[.p ED (BJ d).1,.p GK (BJ d).2] }
theorem pE:Ab Tryz.prog 62 Jt:=by
 refine fK [0,2,3,4,5,6,8,9,10,18,29] Tryz.func62 Tryz.ntmps62 (AE pB (AE QZ (AE A7m (AE j4 AH)))) ?_;rintro w0 O0 ⟨d,u⟩ b - -;simp only[Jt,AM];repeat'(first|exact trivial|apply eS rfl|refine rX b ?_ ?_|refine rC ?_ ?_<;>intro a<;>try(cases a;done))
 .have h1:BJ d=(([],[]),(Bj d).2):=by unfold BJ;rw[BY a]
  exact fI b [.cell 2 31,.tmp 3] (by rw[h1];exact eR)
 have c:(Bj d).2=0:=by simpa using a
 have f:Bb d=0:=by
  unfold Bj at c;split at c
  .rename_i h;exact absurd c h
  rename_i h;exact IN h
 obtain⟨t,x,w⟩:=DE f;obtain⟨j,m,k⟩:=B5 t;have g:BJ d=(IE d,0):=by unfold BJ;rw[As (by rw[c];simp)]
 have r:(Bj d).1.length=(A5 d).length:=by
  unfold Bj;rw[As (by rw[f];simp)];exact aA _ _ _ _
 have s:=Ot j;have o:(A5 d).length<=256:=by rw[IC];exact m
 unfold IE at g;rw[k];generalize A5 d=l at *;generalize (Bj d).1=v at *;refine AJ (ι:={n:Nat//n<=l.length}) (λn=>⟨[(0,.p Eo d),(2,.bp 2 [] 0),(4,.p A5X v),(6,.p Jo l),(8,.bp 8 [] 0),(9,.p (.int .i64) (n.1:Int))],[(2,.box 31 true [.raw (.slice none 0 0),.raw (.slice none 0 0)]),(8,.box 31 true [.sr 53 oB 0 (Fm l v n.1).length,.raw (.slice none 0 0)]),(53,.arr 144 oB (Fm l v n.1))]⟩) (λn=>l.length-n.1) ⟨0,IS _⟩ (AC [(2,.nm 2),(8,.nm 8),(53,.nil)] rfl rfl ?_ ?_) (λn=>?_)
 .refine eM ?_;exact⟨rfl,rfl⟩
 .exact eN
 obtain⟨n,hn⟩:=n;have q:=NE l v n;have i:=pD l v n;simp only;repeat'(first|exact trivial|apply eS rfl|apply AB|refine rX b ?_ ?_|refine rC ?_ ?_<;>intro a<;>try(cases a;done))
 .refine⟨a,a,⟨a,o,s⟩,by rw[r];exact a,?_⟩;rw[q];simp only[AO];omega
 .omega
 .have e:n<l.length:=Do.1 a;refine⟨⟨n+1,e⟩,by simp only;omega,AC [(2,.nm 2),(8,.nm 8),(53,.nm 53)] rfl rfl ?_ ?_⟩
  .simp only[i];exact eN
  simp only[i];exact eN
 have e:n=l.length:=by omega
 subst e;refine E6 [53] ?_;exact fI b [.cell 2 31,.tmp 3] (by rw[g];exact eR)
def HD (d:List AK):AG:=if d.length<=20/\(BJ d).2=0 then (BJ d).1 else (BJ Js).1
end
section
def pF:AZ:={ ins:=[BM,T3],pre:=λ(_,i,_)=>(0:Int)<=i,out:=λ(b,i,_)=>[.p QM (F7 b i)],lend:=true }
attribute [local go_sem] pF
theorem A3J:Ab Tryz.prog 175 pF:=by
 refine fK [0,1,4,8] Tryz.func175 Tryz.ntmps175 AH ?_;rintro w0 O0 ⟨b,i,u⟩ c-hi;simp only[pF,AM];repeat'(first|exact trivial|apply eS rfl|refine rX c ?_ ?_|refine rC ?_ ?_<;>intro a<;>try(cases a;done))
 .exact⟨hi,a⟩
 .have h1:F7 b i=b.getD i.toNat 0:=by unfold F7;rw[BY a]
  exact fI c [.tmp 4] (by rw[h1];exact eR)
 have h1:F7 b i=0:=by unfold F7;rw[As (Yd.2 a)]
 exact fI c [.tmp 4] (by rw[h1];exact eR)
def MD (a b:List Int):Bool:=(List.range a.length).all λi=>B2 .andNot .u64 (a.getD i 0) (F7 b (i:Int))==0
def j5 (a b:List Int) (n:Nat):Bool:=(List.range n).all λi=>B2 .andNot .u64 (a.getD i 0) (F7 b (i:Int))==0
theorem pG (a b:List Int) (n:Nat):j5 a b (n+1)=(j5 a b n&&B2 .andNot .u64 (a.getD n 0) (F7 b (n:Int))==0):=by
 unfold j5;rw[UQ,AD7];simp
def Qb:AZ:={ ins:=[BM,BM],pre:=λ_=>True,out:=λ(a,b,_)=>[.p .bool (MD a b)],lend:=true }
attribute [local go_sem] Qb
theorem XP:Ab Tryz.prog 133 Qb:=by
 refine fK [0,1,4,5,6,7,8,9,10,19] Tryz.func133 Tryz.ntmps133 (AE A3J AH) ?_;rintro w0 O0 ⟨a,b,u⟩ e ⟨⟨g,-⟩,-⟩ -;simp only[AO]at g;simp only[Qb,AM];repeat'(first|exact trivial|apply eS rfl|refine rX e ?_ ?_)
 have h:MD a b=j5 a b a.length:=rfl;refine AJ (ι:={n:Nat//n<=a.length/\j5 a b n=true}) (λn=>⟨[(1,.p BM b),(7,.p BM a),(8,.p (.int .i64) (a.length:Int)),(9,.p (.int .i64) (n.1:Int))],[]⟩) (λn=>a.length-n.1) ⟨0,IS _,rfl⟩ (eW []) (λn=>?_)
 obtain⟨n,hn,f⟩:=n;have hs:=pG a b n;simp only;repeat'(first|exact trivial|apply eS rfl|apply AB|refine rX e ?_ ?_|refine rC ?_ ?_<;>intro d<;>try(cases d;done))
 .exact d
 .have c:n<a.length:=by exact eV
  have h1:MD a b=false:=by
   unfold MD;rw[ADh];exact⟨n,Tx.2 c,by simpa using d⟩
  exact fI e [.tmp 4] (by rw[h1];exact eR)
 .exact eV
 .have c:n<a.length:=by exact eV
  refine⟨⟨n+1,c,?_⟩,by simp only;omega,AC [] rfl rfl ?_ ?_⟩
  .rw[hs,f];simpa using d
  .exact eN
  exact eN
 have c:n=a.length:=by exact eV
 subst c;exact fI e [.tmp 4] (by rw[h,f];exact eR)
abbrev Y4:ID:=(ByteArray.empty,[],[],[])
def BB (h:AG) (a b:Int):Bool:=MD (h.1.getD b.toNat Y4).2.1 (h.1.getD a.toNat Y4).2.1
def XQ:AZ:={ ins:=[ED,T3,T3],pre:=λ(h,a,b,_)=>((0:Int)<=a/\a<(List.length (h:AG).1:Int))/\((0:Int)<=b/\b<(List.length (h:AG).1:Int)),out:=λ(h,a,b,_)=>[.p .bool (BB h a b)],lend:=true }
theorem yV:Ab Tryz.prog 84 XQ:=by
 refine fK [0,1,2,3,6] Tryz.func84 Tryz.ntmps84 (AE XP AH) ?_;rintro w0 O0 ⟨⟨e,hf⟩,a,b,u⟩ c-⟨ha,d⟩;simp only[XQ,AM];repeat'(first|exact trivial|apply eS rfl|refine rX c ?_ ?_)
 .exact⟨d,ha⟩
 exact fI c [.tmp 6] (by unfold BB;exact eR)
end
section
attribute [local go_sem] Qb
def XR:AZ:={ ins:=[BM],pre:=λ(b,_)=>List.length b<=100000,out:=λ(b,_)=>[.p BM (BO b)] }
attribute [local go_sem] XR
theorem pH:Ab Tryz.prog 212 XR:=by
 refine fK [0,2,3,15] Tryz.func212 Tryz.ntmps212 AH ?_;rintro w0 O0 ⟨b,u⟩ d-f;have f:b.length<=100000:=f;simp only[XR,AM];repeat'(first|exact trivial|apply eS rfl|refine rX d ?_ ?_)
 refine AJ (ι:={n:Nat//n<=b.length/\Cj b n=Cj b b.length}) (λn=>⟨[(0,.p BM b),(3,.p (.int .i64) (n.1:Int))],[]⟩) (λn=>n.1) ⟨b.length,Is _,rfl⟩ (eW []) (λn=>?_)
 obtain⟨n,hn,g⟩:=n;simp only;repeat'(first|apply eS rfl|apply AB|refine rX d ?_ ?_|refine rC ?_ ?_<;>intro c<;>try(cases c;done))
 .constructor
  .exact eV
  intro h;refine⟨?_,?_⟩<;>exact eV
 .exact eV
 .obtain⟨h1,a⟩:=c;obtain⟨m,rfl⟩:∃m,n=m+1:=⟨n-1,by omega⟩;have e:(((m+1:Nat):Int)-1)=(m:Int):=by omega
  rw[e]at a;have a:b.getD m 0=0:=a;have j:Cj b m=Cj b b.length:=by
   rw[<-g];show _=if b.getD m 0=0 then Cj b m else m+1
   rw[BY a]
  refine⟨⟨m,by omega,j⟩,by simp,AC [] rfl rfl ?_ ?_⟩
  .exact eN
  simp only[e];exact eN
 .exact Tn.2 hn
 have i:Cj b n=n:=by
  cases n with
  | zero=>rfl
  | succ m =>
   have e:(((m+1:Nat):Int)-1)=(m:Int):=by omega
   rw[e]at c;have a:=c (by omega);have a:¬b.getD m 0=0:=a;show (if b.getD m 0=0 then Cj b m else m+1)=m+1;rw[As a]
 have h1:BO b=b.take n:=by unfold BO;rw[<-g,i]
 rw[<-h1];exact fI d [.tmp 2]
def Gl (g:Nat->Int) (n i:Nat):List Int:=(List.range n).map λj=>if j<i then g j else 0
theorem aC (g:Nat->Int) (n i:Nat):(Gl g n i).length=n:=by simp[Gl]
theorem pI (g:Nat->Int) (n:Nat):Gl g n 0=List.replicate n 0:=by
 apply UZ
 .simp[Gl]
 intro j h1 a;simp[Gl]
theorem A11 (g:Nat->Int) (n i:Nat):(Gl g n i).set i (g i)=Gl g n (i+1):=by
 apply UZ
 .simp[Gl]
 intro j h1 b;simp only[Gl,List.getElem_set,aT,iF];split
 .rename_i e;rw[BY (by omega),e]
 rename_i e;by_cases a:j<i
 .rw[BY a,BY (by omega)]
 rw[As a,As (by omega)]
def eC (a b:List Int) (i:Nat):Int:=B2 .and .u64 (a.getD i 0) (b.getD i 0)
def Fq (a b:List Int):List Int:=BO (Gl (eC a b) (min a.length b.length) (min a.length b.length))
def A3K:AZ:={ ins:=[BM,BM],pre:=λ(a,_,_)=>List.length a<=100000,out:=λ(a,b,_)=>[.p BM (Fq a b)] }
attribute [local go_sem] A3K
theorem A7t:Ab Tryz.prog 176 A3K:=by
 refine fK [0,1,4,5,6,14,15,16] Tryz.func176 Tryz.ntmps176 (AE pH AH) ?_;rintro w0 O0 ⟨a,b,u⟩ d-ha;have ha:a.length<=100000:=ha;simp only[A3K,AM];repeat'(first|exact trivial|apply eS rfl|refine rX d ?_ ?_)
 .split<;>simp only[AO]<;>dsimp only[Ty.den]at *<;>omega
 have h:Int.toNat (if ((List.length b:Nat):Int)<((List.length a:Nat):Int) then ((List.length b:Nat):Int) else ((List.length a:Nat):Int))=min (List.length a) (List.length b):=by split<;>omega
 rw[h];have j:Fq a b=BO (Gl (eC a b) (min a.length b.length) (min a.length b.length)):=rfl;have k:min a.length b.length<=a.length:=Nat.min_le_left _ _;have l:min a.length b.length<=b.length:=Nat.min_le_right _ _;generalize min a.length b.length=n at *;refine AJ (ι:={i:Nat//i<=n}) (λi=>⟨[(0,.p BM a),(1,.p BM b),(5,.sr 12 QM 0 n),(14,.p (.int .i64) (n:Int)),(15,.p (.int .i64) (i.1:Int))],[(12,.arr 186 QM (Gl (eC a b) n i.1))]⟩) (λi=>n-i.1) ⟨0,IS _⟩ (AC [(12,.nm 12)] rfl rfl ?_ ?_) (λi=>?_)
 .refine eM ?_;rw[pI]
 .exact eN
 obtain⟨i,hi⟩:=i;have f:=aC (eC a b) n i;simp only;repeat'(first|exact trivial|apply eS rfl|apply AB|refine rX d ?_ ?_|refine rC ?_ ?_<;>intro c<;>try(cases c;done))
 .have e:i<n:=Do.1 c;exact⟨by exact eV,by exact eV,c⟩
 .exact eV
 .have e:i<n:=Do.1 c;refine⟨⟨i+1,e⟩,by simp only;omega,AC [(12,.nm 12)] rfl rfl ?_ ?_⟩
  .simp only[<-A11];refine eM ?_;rfl
  exact eN
 have e:i=n:=by omega
 subst e;have g:(Gl (eC a b) i i).take i=Gl (eC a b) i i:=At (by rw[f];exact Is _);refine E6 [12] ?_;repeat'(first|apply eS rfl|refine rX d ?_ ?_)
 .rw[g,f];dsimp only[Ty.den]at *;omega
 rw[g];exact fI d [.tmp 4] (by rw[j];exact eR)
def Dl (a b:List Int):Bool:=MD a b&&MD b a
def eD:AZ:={ ins:=[BM,BM],pre:=λ_=>True,out:=λ(a,b,_)=>[.p .bool (Dl a b)],lend:=true }
attribute [local go_sem] eD
theorem A12:Ab Tryz.prog 179 eD:=by
 refine fK [0,1,4] Tryz.func179 Tryz.ntmps179 (AE XP AH) ?_;rintro w0 O0 ⟨a,b,u⟩ c - -;simp only[eD,AM];repeat'(first|exact trivial|apply eS rfl|refine rX c ?_ ?_)
 exact fI c [.tmp 4] (by unfold Dl;exact eR)
def Ep (c:List Int):Nat->List ID->Int
 | _,[]=>-1
 | k,t :: l=>if Dl t.2.1 c=true then (k:Int) else Ep c (k+1) l
theorem pJ (c:List Int) (l:List ID) {k:Nat} (h:k<l.length):Ep c k (l.drop k)=if Dl (l.getD k Y4).2.1 c=true then (k:Int) else Ep c (k+1) (l.drop (k+1)):=by
 rw[Tj h];have e:l.getD k Y4=l[k]:=by simp[AS,h]
 rw[e];rfl
theorem A3L (c:List Int) (t:ID):A9 Tryz.prog 178 [.p oB t,.bp 1 [] 0] [(1,.box 140 false [.p BM c])] [1] (λres b=>res=.p .bool (Dl t.2.1 c)/\b=[(1,.box 140 false [.p BM c])]):=by
 refine Kh [0,1,2,3] [] [] Tryz.func178 Tryz.ntmps178 (AE A12 AH) ?_;intro w0 K O0 ρ0 a d e;simp only[Aq];repeat'(first|exact trivial|apply eS rfl|refine rX a ?_ ?_)
 refine Ev.ent (σ':=⟨[(3,.p .bool (Dl t.2.1 c))],[(1,.box 140 false [.p BM c])]⟩) ?_ (AC [(1,.nm 1)] rfl rfl ?_ ?_)
 .exact fM a [.tmp 3] (.p .bool (Dl t.2.1 c)) eT ⟨rfl,rfl⟩
 .exact eN
 exact eN
theorem A13 (l:List ID) (c:List Int) (i:l.length<=100000):A9 Tryz.prog 177 [.p mQ l,.clo 178 [1]] [(1,.box 140 false [.p BM c])] [1] (λres g=>res=.p T3 (Ep c 0 l)/\g=[(1,.box 140 false [.p BM c])]):=by
 refine Kh [0,1,4,5,7,8,9,16] [] [] Tryz.func177 Tryz.ntmps177 AH ?_;intro w0 K O0 ρ0 b j m;simp only[Aq];repeat'(first|exact trivial|apply eS rfl|refine rX b ?_ ?_)
 refine AJ (ι:={k:Nat//k<=l.length/\Ep c k (l.drop k)=Ep c 0 l}) (λk=>⟨[(0,.p mQ l),(1,.clo 178 [1]),(7,.p (.int .i64) (l.length:Int)),(8,.p (.int .i64) (k.1:Int))],[(1,.box 140 false [.p BM c])]⟩) (λk=>l.length-k.1) ⟨0,IS _,rfl⟩ (eW [(1,.nm 1)]) (λk=>?_)
 obtain⟨k,hk,hf⟩:=k;have f:=λh:k<l.length=>pJ c l h;simp only;repeat'(first|exact trivial|apply eS rfl|refine rX b ?_ ?_|refine rC ?_ ?_<;>intro a<;>try(cases a;done))
 .have d:k<l.length:=Do.1 a;have e:=f d;refine cP 5 b ?_ ?_
  .exact a
  refine rM b (A3L c (l.getD k Y4)) [(1,.nm 1)] [] ?_ ?_ ?_
  .exact eN
  .exact eN
  rintro _ _ ⟨rfl,rfl⟩;refine⟨[(1,.nm 1)],.p .bool (Dl (l.getD k Y4).2.1 c),[(1,.box 140 false [.p BM c])],rfl,rfl,?_,?_,rfl,rfl,Bh ?_⟩
  .exact eN
  .exact eN
  repeat'(first|exact trivial|apply eS rfl|apply AB|refine rX b ?_ ?_|refine rC ?_ ?_<;>intro a<;>try(cases a;done))
  .have a:Dl (l.getD k Y4).2.1 c=true:=a;rw[BY a,hf]at e;refine Ev.ent (σ':=⟨[(4,.p (.int .i64) (k:Int))],[(1,.box 140 false [.p BM c])]⟩) ?_ (AC [(1,.nm 1)] rfl rfl ?_ ?_)
   .exact fM b [.tmp 4] (.p T3 (k:Int)) eT ⟨by rw[e],rfl⟩
   .exact eN
   exact eN
  .omega
  have a:Dl (l.getD k Y4).2.1 c=false:=a;rw[As (by rw[a];simp)]at e;exact⟨⟨k+1,d,e.symm.trans hf⟩,by simp only;omega,eW [(1,.nm 1)]⟩
 have d:l.drop k=[]:=On (Tn.1 a);rw[d]at hf;have hf:(-1:Int)=Ep c 0 l:=hf;refine Ev.ent (σ':=⟨[(4,.p (.int .i64) (-1))],[(1,.box 140 false [.p BM c])]⟩) ?_ (AC [(1,.nm 1)] rfl rfl ?_ ?_)
 .exact fM b [.tmp 4] (.p T3 (-1)) eT ⟨by rw[hf],rfl⟩
 .exact eN
 exact eN
def Bk (h:AG) (t:Int):List Int:=(h.1.getD t.toNat Y4).2.1
def Bq (h:AG) (a b:Int):Int×Bool :=
 if (Fq (Bk h a) (Bk h b)).length=0 then (0,false) else if Ep (Fq (Bk h a) (Bk h b)) 0 h.1<0 then (0,false) else (Ep (Fq (Bk h a) (Bk h b)) 0 h.1,true)
def yW:AZ:={ ins:=[ED,T3,T3],pre:=λ(h,a,b,_)=>((0:Int)<=a/\a<(List.length (h:AG).1:Int))/\((0:Int)<=b/\b<(List.length (h:AG).1:Int))/\List.length (h:AG).1<=100000/\(∀x∈(h:AG).1,x.2.1.length<=100000),out:=λ(h,a,b,_)=>[.p T3 (Bq h a b).1,.p .bool (Bq h a b).2],lend:=true }
theorem A7u:Ab Tryz.prog 135 yW:=by
 refine fK [0,1,2,3,6,7,8,9,25,31] Tryz.func135 Tryz.ntmps135 (AE A7t AH) ?_;rintro w0 O0 ⟨⟨d,hf⟩,a,b,u⟩ e-⟨ha,i,k,n⟩;simp only[yW,AM];refine Ev.ent (σ':=⟨[(0,.p ED (d,hf)),(1,.p T3 a),(2,.p T3 b)],[]⟩) ?_ (AC [] rfl rfl ?_ ?_)
 .repeat'(first|exact trivial|apply eS rfl|refine rX e ?_ ?_|refine rC ?_ ?_<;>intro f<;>try(cases f;done))
  .refine⟨ha,i,?_⟩;have h1:Int.toNat a<List.length d:=(Int.toNat_lt ha.1).2 ha.2;exact n _ (AF (d:List ID) Y4 h1)
  .have l:Bq (d,hf) a b=(0,false):=by
    unfold Bq;rw[BY (by unfold Bk;exact AEf f)]
   exact fI e [.tmp 6,.tmp 7] (by rw[l];exact eR)
  have j:∀c,c=Fq (List.getD d (Int.toNat a) (ByteArray.empty,[],[],[])).2.1 (List.getD d (Int.toNat b) (ByteArray.empty,[],[],[])).2.1->c=Fq (Bk (d,hf) a) (Bk (d,hf) b):=λc h=>h;have g:Bq (d,hf) a b=if Ep (Fq (Bk (d,hf) a) (Bk (d,hf) b)) 0 d<0 then (0,false) else (Ep (Fq (Bk (d,hf) a) (Bk (d,hf) b)) 0 d,true):=by
   unfold Bq;rw[As (λh=>f (by unfold Bk at h;exact Uu Int.ofNat h))]
  generalize o:Fq (List.getD d (Int.toNat a) (ByteArray.empty,[],[],[])).2.1 (List.getD d (Int.toNat b) (ByteArray.empty,[],[],[])).2.1=c at *;rw[<-j c rfl]at g;refine cP 3 e ?_ ?_
  .trivial
  refine rM e (A13 d c k) [(1,.nm 8)] [] ?_ ?_ ?_
  .exact eN
  .exact eN
  rintro _ _ ⟨rfl,rfl⟩;refine⟨[(8,.nm 1)],.p T3 (Ep c 0 d),[(8,.box 140 false [.p BM c])],rfl,rfl,?_,?_,rfl,rfl,?_⟩
  .exact eN
  .exact eN
  generalize Ep c 0 d=m at *;refine rL e ?_ ?_
  .trivial
  repeat'(first|exact trivial|apply eS rfl|refine rX e ?_ ?_|refine rC ?_ ?_<;>intro f<;>try(cases f;done))
  .rw[BY f]at g;exact fI e [.tmp 6,.tmp 7] (by rw[g];exact eR)
  rw[As (Yd.2 f)]at g;exact fI e [.tmp 6,.tmp 7] (by rw[g];exact eR)
 .exact eN
 exact eN
end
structure yX (l:List (List Int)):Prop where
 wds:∀c∈l,Ix c
 some:∀c∈l,∃i,BW c i=true
 wid:∀c∈l,c.length<=64
 meet:∀a∈l,∀b∈l,(∃i,BW a i=true/\BW b i=true)->∃t∈l,∀i,BW t i=(BW a i&&BW b i)
structure Bs (l:List (List Int)):Prop where
 wds:∀c∈l,Ix c
 some:∀c∈l,∃i,BW c i=true
theorem aD {l:List (List Int)} {k:Nat} (h:¬k<l.length):l.getD k []=[]:=by
 rw[AS,Ts (by omega)];rfl
theorem Bs.get {l:List (List Int)} (h:Bs l) (k:Nat):Ix (l.getD k []):=by
 by_cases hk:k<l.length
 .exact h.wds _ (DU hk)
 rw[aD hk];intro x a;cases a
theorem A7v {l:List (List Int)} (h:Bs l) (i k:Nat):Bs (Gw l i k):=by
 unfold Gw;split
 .rename_i b;rw[An,DO]at b;refine⟨λc a=>?_,λc a=>?_⟩
  .rcases IF.1 a with a|a
   .exact h.wds c a
   have:c=GM (l.getD i []) (l.getD k []):=by simpa using a
   rw[this];exact yT (h.get i) (h.get k)
  rcases IF.1 a with a|a
  .exact h.some c a
  have:c=GM (l.getD i []) (l.getD k []):=by simpa using a
  rw[this];have g:GM (l.getD i []) (l.getD k [])≠[]:=by
   intro e;rw[e]at b;exact absurd b.1 (by simp)
  have m:Ix (GL .and (l.getD i []) (l.getD k []) (l.getD i []).length):=by
   intro x d;unfold GL at d;obtain⟨j,-,rfl⟩:=If.1 d;rw[Ha,H9 (BE (h.get i) _) (BE (h.get k) _)];have h1:=BE (h.get i) j;have n:((l.getD i []).getD j 0).toNat &&& ((l.getD k []).getD j 0).toNat<=((l.getD i []).getD j 0).toNat:=ADU;have o:=h1.1;have p:=h1.2;exact⟨VA _,by omega⟩
  obtain⟨j,f⟩:=o9 m g;exact⟨j,by unfold GM;rw[Og];exact f⟩
 exact h
theorem yY {i:Nat}:∀ {n k:Nat} {l:List (List Int)},Bs l->Bs (Gx i n k l)
 | 0,_,_,h=>h
 | n+1,k,l,h=>by
  unfold Gx;split
  .exact yY (A7v h i k)
  exact h
theorem yZ:∀ {n i:Nat} {l:List (List Int)},Bs l->Bs (JP n i l)
 | 0,_,_,h=>h
 | n+1,i,l,h=>by
  unfold JP;split
  .exact yZ (yY h)
  exact h
theorem A14 {d:List AK} (f:BU d=0):Bs (Ak d):=by
 obtain⟨-,l,-⟩:=BD f;have h:=FD d d.length;rw[Tl]at h;have b:(AX d).length<=4096:=by omega
 refine⟨λc a=>?_,λc a=>?_⟩
 .unfold Ak at a;obtain⟨s,-,rfl⟩:=If.1 a;exact(EW (d:=d) b s 0).2.1
 unfold Ak at a;obtain⟨s,hs,rfl⟩:=If.1 a;obtain⟨j,g,e⟩:=Cl ByteArray.empty hs;have i:0<=BI d s:=by
  obtain⟨x,k,e⟩:=GP hs;rw[<-e];exact FG k
 exact⟨j,(EW (d:=d) b s j).1.2 ⟨g,by rw[e];exact Om i⟩⟩
theorem pK {d:List AK} (l:BU d=0) (s:(A8 (Ak d)).length<=256):yX (A8 (Ak d)):=by
 obtain⟨-,o,-⟩:=BD l;have g:Bs (A8 (Ak d)):=yZ (A14 l);have n:=d7 s;refine⟨g.wds,g.some,QY (Oq o),λa ha b r hi=>?_⟩;obtain⟨q,f,rfl⟩:=Cl [] ha;obtain⟨p,hp,rfl⟩:=Cl [] r;have key:∀q p,q<(A8 (Ak d)).length->p<(A8 (Ak d)).length->LJ (A8 (Ak d)) q p->(∃i,BW ((A8 (Ak d)).getD q []) i=true/\BW ((A8 (Ak d)).getD p []) i=true) ->
   ∃t∈A8 (Ak d),∀i,BW t i=(BW ((A8 (Ak d)).getD q []) i&&BW ((A8 (Ak d)).getD p []) i):=by
  intro q p f hp c hi;have m:=yS (g.get q) (g.get p);rcases c with c|c
  .obtain⟨i,j,k⟩:=hi;have:=m i;rw[c,j,k]at this;unfold BW at this;simp at this
  exact⟨_,c,m⟩
 rcases ADA p q with h|h|h
 .exact key q p f hp (n q p h f) hi
 .subst h;exact⟨_,DU f,λi=>by rw[Bool.and_self]⟩
 obtain⟨t,u,e⟩:=key p q hp f (n p q h hp) (by obtain⟨i,j,k⟩:=hi;exact⟨i,k,j⟩);exact⟨t,u,λi=>by rw[e i,AEj]⟩
def Gm (h:AG):Prop:=yX (h.1.map λt=>t.2.1)/\h.1.length<=256
theorem ME (d:List AK):Gm (BJ d).1:=by
 unfold BJ;split
 .exact⟨⟨λc h=>(by cases h),λc h=>(by cases h),λc h=>(by cases h),λc h=>(by cases h)⟩,by simp⟩
 rename_i g;have g:(Bj d).2=0:=IN g;have m:Bb d=0:=by
  unfold Bj at g;split at g
  .rename_i h;exact absurd g h
  rename_i h;exact IN h
 obtain⟨p,-,-⟩:=DE m;obtain⟨l,k,-⟩:=B5 p;have hf:=pK l k;have f:∀c,c∈((IE d).1.map λt=>t.2.1)↔c∈A8 (Ak d):=by
  intro c;have e:((IE d).1.map λt=>t.2.1)=(A5 d).map λx=>x.2:=by
   show ((Fm _ _ _).map λt=>t.2.1)=_;unfold Fm;rw[Uf];apply UZ
   .simp
   intro i h1 q;simp[AS,show i<(A5 d).length by simpa using h1]
  rw[e];constructor
  .intro h;obtain⟨x,o,rfl⟩:=If.1 h;obtain⟨b,j,rfl⟩:=EX.1 o;exact j
  intro h;exact If.2 ⟨_,EX.2 ⟨c,h,rfl⟩,rfl⟩
 refine⟨⟨λc h=>hf.wds c ((f c).1 h),λc h=>hf.some c ((f c).1 h),λc h=>hf.wid c ((f c).1 h),λa ha b j hi=>?_⟩,?_⟩
 .obtain⟨t,n,e⟩:=hf.meet a ((f a).1 ha) b ((f b).1 j) hi;exact⟨t,(f t).2 n,e⟩
 show (Fm _ _ _).length<=256;rw[NE,IC];exact k
theorem Cm {h:AG} {t:Int} (a:0<=t) (b:t<(h.1.length:Int)):Bk h t∈h.1.map λt=>t.2.1 :=
 If.2 ⟨_,AF h.1 Y4 (k:=t.toNat) (by omega),rfl⟩
theorem XS {a b:List Int} (ha:Ix a) (c:Ix b):MD a b=true↔∀i,BW a i=true->BW b i=true:=by
 constructor
 .intro h i hi;by_cases hk:i / 64<a.length
  .have h1:=ON.1 h (i / 64) (Tx.2 hk);rw[UP,Ha]at h1;exact S1 (BE ha _) (BE c _) h1 (AEq _ (by decide)) hi
  exfalso;unfold BW at hi;rw[Gk hk]at hi;simp at hi
 intro h;unfold MD;rw[ON];intro k _;rw[UP,Ha];exact Z7 ha c h k
theorem A3M {a b:List Int} (ha:Ix a) (c:Ix b) (i:Nat):BW (Fq a b) i=(BW a i&&BW b i):=by
 unfold Fq;rw[Og];unfold BW;have:(Gl (eC a b) (min a.length b.length) (min a.length b.length)).getD (i / 64) 0=B2 .and .u64 (a.getD (i / 64) 0) (b.getD (i / 64) 0):=by
  by_cases h:i / 64<min a.length b.length
  .unfold Gl;rw[AS,UO,Ya h];show (if i / 64<min a.length b.length then eC a b (i / 64) else 0)=_;rw[BY h];rfl
  rw[Gk (by rw[aC];exact h),H9 (BE ha _) (BE c _)];by_cases h1:i / 64<a.length
  .rw[Gk (b:=b) (by omega)];simp
  rw[Gk (b:=a) h1];simp
 rw[this,H9 (BE ha _) (BE c _),To,Nat.testBit_and]
theorem A3N {a b:List Int} (ha:Ix a) (d:Ix b):Ix (Fq a b):=by
 refine Oh λx c=>?_;unfold Gl at c;obtain⟨j,-,rfl⟩:=If.1 c;split
 .unfold eC;rw[H9 (BE ha _) (BE d _)];have h1:=BE ha j;have e:(a.getD j 0).toNat &&& (b.getD j 0).toNat<=(a.getD j 0).toNat:=ADU;have f:=h1.1;have g:=h1.2;exact⟨VA _,by omega⟩
 exact⟨by decide,by decide⟩
theorem XT (c:List Int):∀(l:List ID) (k:Nat),(Ep c k l=-1/\∀t∈l,Dl t.2.1 c=false)\/((k:Int)<=Ep c k l/\Ep c k l<(k:Int)+l.length/\Dl (l.getD ((Ep c k l).toNat-k) Y4).2.1 c=true)
 | [],k=>.inl ⟨rfl,λt a=>by cases a⟩
 | x :: l,k=>by
  simp only[Ep];split
  .rename_i h;right;refine⟨by omega,by simp only[OS];omega,?_⟩;rw[show ((k:Int).toNat-k)=0 by omega];exact h
  rename_i h;have h:Dl x.2.1 c=false:=by simpa using h
  rcases XT c l (k+1) with ⟨h1,b⟩|⟨h1,b,d⟩
  .left;refine⟨h1,λt a=>?_⟩;rcases By.1 a with rfl|a
   .exact h
   exact b t a
  right;refine⟨by omega,by simp only[OS];omega,?_⟩;rw[show ((Ep c (k+1) l).toNat-k)=((Ep c (k+1) l).toNat-(k+1))+1 by omega];exact d
def Tb2 (h:AG) (t:Int) (i:Nat):Bool:=BW (Bk h t) i
theorem CZ {h:AG} (hk:Gm h) {a b:Int} (c:0<=a) (d:a<(h.1.length:Int)) (e:0<=b) (b1:b<(h.1.length:Int)):BB h a b=true↔∀i,Tb2 h b i=true->Tb2 h a i=true :=
 XS (hk.1.wds _ (Cm e b1)) (hk.1.wds _ (Cm c d))
theorem A3O {h:AG} (hk:Gm h) {a b:Int} (g:0<=a) (j:a<(h.1.length:Int)) (l:0<=b) (b1:b<(h.1.length:Int)) :
  ((Bq h a b).2=true->0<=(Bq h a b).1/\(Bq h a b).1<(h.1.length:Int)/\∀i,Tb2 h (Bq h a b).1 i=(Tb2 h a i&&Tb2 h b i))/\((∃i,Tb2 h a i=true/\Tb2 h b i=true)->(Bq h a b).2=true):=by
 have s:=hk.1.wds _ (Cm g j);have u:=hk.1.wds _ (Cm l b1);have c:=A3M s u;have o:=A3N s u;have heq:∀t∈h.1,Dl t.2.1 (Fq (Bk h a) (Bk h b))=true↔∀i,BW t.2.1 i=BW (Fq (Bk h a) (Bk h b)) i:=by
  intro t d;have wt:=hk.1.wds t.2.1 (If.2 ⟨t,d,rfl⟩);unfold Dl;rw[An,XS wt o,XS o wt];constructor
  .rintro⟨v,w⟩ i;rw[ADd];exact⟨v i,w i⟩
  intro e;exact⟨λi hi=>by rw[<-e i];exact hi,λi hi=>by rw[e i];exact hi⟩
 unfold Bq;by_cases f:(Fq (Bk h a) (Bk h b)).length=0
 .rw[BY f];refine⟨λe=>(by cases e),?_⟩;rintro⟨i,q,r⟩;exfalso;have:=c i;rw[Tv f]at this;unfold Tb2 at q r;rw[q,r]at this;unfold BW at this;simp at this
 rw[As f];rcases XT (Fq (Bk h a) (Bk h b)) h.1 0 with ⟨h1,m⟩|⟨h1,m,n⟩
 .rw[BY (by omega)];refine⟨λe=>(by cases e),λhi=>?_⟩;exfalso;obtain⟨t,d,e⟩:=hk.1.meet _ (Cm g j) _ (Cm l b1) hi;obtain⟨x,p,rfl⟩:=If.1 d;have:=(heq x p).2 (λi=>by rw[c i];exact e i);rw[m x p]at this;cases this
 have h1:0<=Ep (Fq (Bk h a) (Bk h b)) 0 h.1:=by omega
 rw[As (by omega)];refine⟨λ_=>⟨h1,by simp only;omega,λi=>?_⟩,λ_=>rfl⟩;rw[Nat.sub_zero]at n;have y:=AF h.1 Y4 (k:=(Ep (Fq (Bk h a) (Bk h b)) 0 h.1).toNat) (by omega);have:=(heq _ y).1 n i;rw[c i]at this;exact this
theorem MF {h:AG} (hk:Gm h) {a b:Int} (l:0<=a) (m:a<(h.1.length:Int)) (n:0<=b) (b1:b<(h.1.length:Int)) :
  ((Bq h a b).2=true->0<=(Bq h a b).1/\(Bq h a b).1<(h.1.length:Int)/\BB h a (Bq h a b).1=true/\BB h b (Bq h a b).1=true) /\
  ∀x,0<=x->x<(h.1.length:Int)->BB h a x=true->BB h b x=true->(Bq h a b).2=true/\BB h (Bq h a b).1 x=true:=by
 obtain⟨r,u⟩:=A3O hk l m n b1;refine⟨λe=>?_,λx g k s t=>?_⟩
 .obtain⟨c,d,f⟩:=r e;refine⟨c,d,(CZ hk l m c d).2 λi hi=>?_,(CZ hk n b1 c d).2 λi hi=>?_⟩
  .rw[f i,An]at hi;exact hi.1
  rw[f i,An]at hi;exact hi.2
 have o:=(CZ hk l m g k).1 s;have p:=(CZ hk n b1 g k).1 t;obtain⟨i,hi⟩:=hk.1.some _ (Cm g k);have e:=u ⟨i,o i hi,p i hi⟩;obtain⟨c,d,f⟩:=r e;refine⟨e,(CZ hk c d g k).2 λj q=>?_⟩;rw[f j,An];exact⟨o j q,p j q⟩
abbrev ACU:=Int×List (Int×Int)
def Gy (f:List ACU):Bool:=decide (f.length<=12)&&f.all λn=>decide (n.2.length<=12)
def Rz:AZ:={ ins:=[Cy],pre:=λ_=>True,out:=λ(f,_)=>[.p .bool (Gy f)] }
theorem A3P:Ab Tryz.prog 18 Rz:=by
 refine fK [0,1,2,3,7,12,22] Tryz.func18 Tryz.ntmps18 AH ?_;rintro w0 O0 ⟨l,u⟩ a e f;simp only[Rz,AM];repeat'(first|exact trivial|apply eS rfl|refine rX a ?_ ?_|refine rC ?_ ?_<;>intro b<;>try(cases b;done))
 .have h1:Gy l=false:=by
   have h:¬(List.length l<=12):=by exact eV
   unfold Gy;rw[Uv h];rfl
  exact fI a [.tmp 2] (by rw[h1];exact eR)
 refine AJ (ι:={k:Nat//k<=l.length/\(l.take k).all (λn=>decide (n.2.length<=12))=true}) (λk=>⟨[(0,.p Cy l),(1,.bp 1 [] 0),(3,.p (.int .i64) (k.1:Int))],[(1,.box 25 true [.p F6 l])]⟩) (λk=>l.length-k.1) ⟨0,by simp⟩ (AC [(1,.nm 1)] rfl rfl ?_ ?_) (λk=>?_)
 .exact eN
 .exact eN
 obtain⟨k,hk,c⟩:=k;repeat'(first|exact trivial|apply eS rfl|apply AB|refine rX a ?_ ?_|refine rC ?_ ?_<;>intro b<;>try(cases b;done))
 .exact eV
 .have h1:Gy l=false:=by
   have hk:k<l.length:=by exact eV
   have h:=AF l (0,[]) hk;unfold Gy;rw[Um];right;rw[ADh];exact⟨_,h,by simp only[DO];exact eV⟩
  exact fI a [.tmp 2] (by rw[h1];exact eR)
 .exact eV
 .have hk:k<l.length:=by exact eV
  refine⟨⟨k+1,by exact eV,?_⟩,by simp only;exact eV,AC [(1,.nm 1)] rfl rfl ?_ ?_⟩
  .have h1:=Ax l (0,[]) hk;have d:((l.take (k+1)).all λn=>decide (n.2.length<=12))=_:=Uu (λx=>List.all x λn=>decide (n.2.length<=12)) h1;rw[d,AD7,c];simp only[Yp,List.all_nil,Bool.and_true,AEh,DO];exact eV
  .exact eN
  exact eN
 have h1:Gy l=true:=by
  have hk:l.take k=l:=At (by exact eV);rw[hk]at c;unfold Gy;rw[c,Yn (by exact eV)];rfl
 exact fI a [.tmp 2] (by rw[h1];exact eR)
def Gn (n:Int) (seen:List (Int×Int)):List (Int×Int)->Int
 | []=>0
 | x :: r=>if x.1<0\/x.2<0\/n<=x.2 then 2 else if (seen.any λy=>y.1==x.1)=true then 4 else Gn n (seen++[x]) r
def IG (l:List (Int×Int)) (n:Int):Int:=Gn n [] l
def j6:AZ:={ ins:=[DC,T3],pre:=λ_=>True,out:=λ(l,n,_)=>[.p GK (IG l n)] }
theorem Ov (n:Int) (l:List (Int×Int)) {k:Nat} (h:k<l.length):Gn n (l.take k) (l.drop k)=if (l.getD k (0,0)).1<0\/(l.getD k (0,0)).2<0\/n<=(l.getD k (0,0)).2 then 2 else if ((l.take k).any λy=>y.1==(l.getD k (0,0)).1)=true then 4 else Gn n (l.take (k+1)) (l.drop (k+1)):=by
 rw[Ax l (0,0) h,Tj h,AS,AT h];rfl
theorem ZG (l:List (Int×Int)) (f:Int) {k:Nat} (h:k<l.length):((l.take (k+1)).any λy=>y.1==f)=((l.take k).any (λy=>y.1==f)||((l.getD k (0,0)).1==f)):=by
 rw[Ax l (0,0) h,AD5];simp
theorem A7w:Ab Tryz.prog 174 j6:=by
 refine fK [0,1,4,5,6,10,35,38,51] Tryz.func174 Tryz.ntmps174 AH ?_;rintro w0 O0 ⟨l,n,u⟩ b ⟨⟨h,-⟩,-⟩ -;simp only[AO]at h;simp only[j6,AM];repeat'(first|exact trivial|apply eS rfl|refine rX b ?_ ?_)
 refine AJ (ι:={k:Nat//k<=l.length/\Gn n (l.take k) (l.drop k)=IG l n}) (λk=>⟨[(0,.p DC l),(1,.p T3 n),(5,.p (.int .i64) (k.1:Int))],[]⟩) (λk=>l.length-k.1) ⟨0,by simp[IG]⟩ (AC [] rfl rfl ?_ ?_) (λk=>?_)
 .exact eN
 .exact eN
 obtain⟨k,hk,c⟩:=k;repeat'(first|exact trivial|apply eS rfl|refine rX b ?_ ?_|refine rC ?_ ?_<;>intro a<;>try(cases a;done))
 .exact eV
 .have hk:k<l.length:=by exact eV
  have h1:IG l n=2:=by
   rw[<-c,Ov n l hk,BY (by rw[<-or_assoc];exact a)]
  exact fI b [.tmp 4] (by rw[h1];exact eR)
 .have hk:k<l.length:=by exact eV
  have hn:¬((l.getD k (0,0)).1<0\/(l.getD k (0,0)).2<0\/n<=(l.getD k (0,0)).2):=by
   have:=a;generalize l.getD k (0,0)=x at this;exact eV
  rw[Ov n l hk,As hn]at c;refine AJ (ι:={j:Nat//j<=k/\((l.take j).any λy=>y.1==(l.getD k (0,0)).1)=false}) (λj=>⟨[(0,.p DC l),(1,.p T3 n),(5,.p (.int .i64) (k:Int)),(6,.p (.int .i64) (j.1:Int))],[]⟩) (λj=>k-j.1) ⟨0,by simp⟩ (AC [] rfl rfl ?_ ?_) (λj=>?_)
  .exact eN
  .exact eN
  obtain⟨j,i,f⟩:=j;repeat'(first|exact trivial|apply eS rfl|apply AB|refine rX b ?_ ?_|refine rC ?_ ?_<;>intro a<;>try(cases a;done))
  .exact eV
  .have e:j<l.length:=by exact eV
   have h1:IG l n=4:=by
    have d:((l.take k).any λy=>y.1==(l.getD k (0,0)).1)=true:=by
     rw[UA];refine⟨l.getD j (0,0),?_,by simpa using a⟩;rw[AS,AT e];exact iS.2 ⟨j,by exact eV,rfl⟩
    rw[<-c,BY d]
   exact fI b [.tmp 4] (by rw[h1];exact eR)
  .exact eV
  .have e:j<l.length:=by exact eV
   refine⟨⟨j+1,by exact eV,?_⟩,by simp only;exact eV,AC [] rfl rfl ?_ ?_⟩
   .have d:=ZG l (l.getD k (0,0)).1 e;refine d.trans ?_;rw[f];simpa using a
   .exact eN
   exact eN
  .exact eV
  have g:j=k:=by exact eV
  subst g;refine⟨⟨j+1,by exact eV,?_⟩,by simp only;exact eV,AC [] rfl rfl ?_ ?_⟩
  .rw[<-c,As (by rw[f];simp)]
  .exact eN
  exact eN
 have h1:IG l n=0:=by
  have hk:l.length<=k:=by exact eV
  rw[<-c,On hk];rfl
 exact fI b [.tmp 4] (by rw[h1];exact eR)
def XU (n:Int×List (Int×Int)):List Int:=n.1 :: (n.2.length:Int) :: n.2.flatMap λa=>[a.1,a.2]
def Br (f:List (Int×List (Int×Int))):List Int:=(f.length:Int) :: f.flatMap XU
def ZH (l:List (Int×List (Int×Int))) (k:Nat):List Int:=(l.length:Int) :: (l.take k).flatMap XU
def XV (l:List (Int×List (Int×Int))) (k j:Nat):List Int:=ZH l k++[(l.getD k (0,[])).1,((l.getD k (0,[])).2.length:Int)]++((l.getD k (0,[])).2.take j).flatMap λa=>[a.1,a.2]
theorem R0:∀l:List (Int×Int),(l.flatMap λa=>[a.1,a.2]).length=2*l.length
 | []=>rfl
 | x :: l=>by simp[R0 l];omega
theorem A3Q (n:Int×List (Int×Int)):(XU n).length=2+2*n.2.length:=by
 have:=R0 n.2;simp only[XU,OS];omega
theorem XW:∀l:List (Int×List (Int×Int)),(∀n∈l,n.2.length<=100000)->(l.flatMap XU).length<=l.length*200002
 | [],_=>by simp
 | x :: l,h=>by
  have h1:=h x (by simp);have a:=XW l (λn hn=>h n (by simp[hn]));have b:=A3Q x;simp only[ADg,A0,OS];omega
theorem j7 {l:List (Int×List (Int×Int))} (h:∀n∈l,n.2.length<=100000) {k:Nat} (hk:k<=l.length):(ZH l k).length<=1+k*200002:=by
 have h1:=XW (l.take k) (λn hn=>h n (UN hn));rw[OR,Yr hk]at h1;simp only[ZH,OS];omega
theorem A3R {l:List (Int×List (Int×Int))} (h:∀n∈l,n.2.length<=100000) {k j:Nat} (hk:k<l.length) (b:j<=(l.getD k (0,[])).2.length):(XV l k j).length<=3+k*200002+2*j:=by
 have h1:=j7 h (ADZ hk);have a:=R0 ((l.getD k (0,[])).2.take j);rw[OR,Yr b]at a;simp only[XV,A0,OS,Ug];omega
theorem aE {l:List (Int×List (Int×Int))} {k:Nat} (hk:k<l.length):ZH l (k+1)=XV l k (l.getD k (0,[])).2.length:=by
 unfold ZH XV;rw[Ax l (0,[]) hk,List.flatMap_append,Tl];simp[XU,ZH]
theorem aF {l:List (Int×List (Int×Int))} {k j:Nat} (a:j<(l.getD k (0,[])).2.length):XV l k (j+1)=XV l k j++[((l.getD k (0,[])).2.getD j (0,0)).1,((l.getD k (0,[])).2.getD j (0,0)).2]:=by
 unfold XV;rw[Ax _ (0,0) a,List.flatMap_append];simp
def XX:AZ:={ ins:=[Cy],pre:=λ(f,_)=>f.length<=100000/\∀n∈f,n.2.length<=100000,out:=λ(f,_)=>[.p FA (Br f)] }
theorem pL:Ab Tryz.prog 130 XX:=by
 refine fK [0,1,2,3,4,5,6,15,38] Tryz.func130 Tryz.ntmps130 AH ?_;rintro w0 O0 ⟨l,u⟩ a ⟨h,-⟩ ⟨n,d⟩;simp only[XX,AM];repeat'(first|exact trivial|apply eS rfl|refine rX a ?_ ?_)
 refine AJ (ι:={k:Nat//k<=l.length}) (λk=>⟨[(0,.p Cy l),(1,.bp 1 [] 0),(3,.sr 10 T3 0 (ZH l k.1).length),(4,.p (.int .i64) (k.1:Int))],[(1,.box 25 true [.p F6 l]),(10,.arr 3 T3 (ZH l k.1))]⟩) (λk=>l.length-k.1) ⟨0,by simp⟩ (AC [(1,.nm 1),(10,.nm 10)] rfl rfl ?_ ?_) (λk=>?_)
 .refine eM ?_;rfl
 .refine eM ?_;rfl
 obtain⟨k,hk⟩:=k;have i:=j7 d hk;repeat'(first|exact trivial|apply eS rfl|refine rX a ?_ ?_|refine rC ?_ ?_<;>intro c<;>try(cases c;done))
 .exact eV
 .refine⟨by exact eV,?_⟩;simp only[AO];exact eV
 .have b:k<l.length:=by exact eV
  have o:=d _ (AF l (0,[]) b);refine AJ (ι:={j:Nat//j<=(l.getD k (0,[])).2.length}) (λj=>⟨[(0,.p Cy l),(1,.bp 1 [] 0),(3,.sr 10 T3 0 (XV l k j.1).length),(4,.p (.int .i64) (k:Int)),(5,.p DC (l.getD k (0,[])).2),(6,.p (.int .i64) (j.1:Int))],[(1,.box 25 true [.p F6 l]),(10,.arr 3 T3 (XV l k j.1))]⟩) (λj=>(l.getD k (0,[])).2.length-j.1) ⟨0,by simp⟩ (AC [(1,.nm 1),(10,.nm 10)] rfl rfl ?_ ?_) (λj=>?_)
  .refine eM ?_;simp[XV]
  .refine eM ?_;simp[XV]
  obtain⟨j,f⟩:=j;have m:=A3R d b f;repeat'(first|exact trivial|apply eS rfl|apply AB|refine rX a ?_ ?_|refine rC ?_ ?_<;>intro c<;>try(cases c;done))
  .refine⟨by exact eV,by exact eV,?_⟩;simp only[AO];exact eV
  .exact eV
  .have e:j<(l.getD k (0,[])).2.length:=by exact eV
   refine⟨⟨j+1,by exact eV⟩,by simp only;exact eV,AC [(1,.nm 1),(10,.nm 10)] rfl rfl ?_ ?_⟩
   .refine eM ?_;exact(aF e).symm
   refine eM ?_;have:=Uu List.length (aF (l:=l) e);rw[A0]at this;exact this.symm
  .exact eV
  have g:j=(l.getD k (0,[])).2.length:=by exact eV
  subst g;refine⟨⟨k+1,by exact eV⟩,by simp only;exact eV,AC [(1,.nm 1),(10,.nm 10)] rfl rfl ?_ ?_⟩
  .refine eM ?_;exact(aE b).symm
  refine eM ?_;exact Uu List.length (aE b).symm
 have hk:l.take k=l:=At (by exact eV);have h1:ZH l k=Br l:=by unfold ZH Br;rw[hk]
 exact fI a [.tmp 2] (by first|exact eR|refine Wf ?_;exact h1)
section
attribute [local go_sem] XX
def Kp:List Int->List Int->Int
 | x :: xs,y :: ys=>if x<y then -1 else if y<x then 1 else Kp xs ys
 | _,_=>0
theorem R1 (xs ys:List Int) {k:Nat} (h1:k<xs.length) (a:k<ys.length):Kp (xs.drop k) (ys.drop k)=if xs.getD k 0<ys.getD k 0 then -1 else if ys.getD k 0<xs.getD k 0 then 1 else Kp (xs.drop (k+1)) (ys.drop (k+1)):=by
 rw[Tj h1,Tj a,AS,AT h1,AS,AT a];rfl
theorem A3S (xs ys:List Int) {k:Nat} (h:xs.length<=k\/ys.length<=k):Kp (xs.drop k) (ys.drop k)=0:=by
 rcases h with h|h
 .rw[On h];simp[Kp]
 rw[On h];simp[Kp]
def CM (a b:List (Int×List (Int×Int))):Int:=Kp (Br a) (Br b)
def EA (f:List (Int×List (Int×Int))):Prop:=f.length<=100000/\∀n∈f,n.2.length<=100000
def XY:AZ:={ ins:=[Cy,Cy],pre:=λ(a,b,_)=>EA a/\EA b,out:=λ(a,b,_)=>[.p T3 (CM a b)] }
theorem Qc {f:List (Int×List (Int×Int))} (h:EA f):(Br f).length<=1+f.length*200002:=by
 have:=XW f h.2;simp only[Br,OS];omega
theorem pM:Ab Tryz.prog 78 XY:=by
 refine fK [0,1,2,3,4,5,6,7,21,32,41] Tryz.func78 Tryz.ntmps78 (AE pL AH) ?_;rintro w0 O0 ⟨a,b,u⟩ e-⟨⟨g,i⟩,⟨j,l⟩⟩;have m:=Qc ⟨g,i⟩;have n:=Qc ⟨j,l⟩;simp only[XY,AM];repeat'(first|exact trivial|apply eS rfl|refine rX e ?_ ?_)
 .exact⟨g,i⟩
 .exact⟨j,l⟩
 refine AJ (ι:={k:Nat//Kp ((Br a).drop k) ((Br b).drop k)=CM a b}) (λk=>⟨[(5,.p FA (Br a)),(6,.p FA (Br b)),(7,.p (.int .i64) (k.1:Int))],[]⟩) (λk=>(Br a).length-k.1) ⟨0,by simp[CM]⟩ (AC [] rfl rfl ?_ ?_) (λk=>?_)
 .exact eN
 .exact eN
 obtain⟨k,hk⟩:=k;repeat'(first|exact trivial|apply eS rfl|apply AB|refine rX e ?_ ?_|refine rC ?_ ?_<;>intro f<;>try(cases f;done))
 .exact eV
 .obtain⟨h1,c⟩:k<(Br a).length/\k<(Br b).length:=by exact eV
  have d:CM a b=-1:=by rw[<-hk,R1 _ _ h1 c,BY f]
  exact fI e [.tmp 4] (by rw[d];exact eR)
 .exact eV
 .obtain⟨h1,c⟩:k<(Br a).length/\k<(Br b).length:=by exact eV
  have d:CM a b=1:=by rw[<-hk,R1 _ _ h1 c,As (by exact eV),BY f]
  exact fI e [.tmp 4] (by rw[d];exact eR)
 .exact eV
 .obtain⟨h1,c⟩:k<(Br a).length/\k<(Br b).length:=by exact eV
  refine⟨⟨k+1,?_⟩,by simp only;exact eV,AC [] rfl rfl ?_ ?_⟩
  .rw[<-hk,R1 _ _ h1 c,As (by exact eV),As (by exact eV)]
  .exact eN
  exact eN
 have d:CM a b=0:=by
  rw[<-hk];apply A3S;by_cases h:k<(Br a).length
  .right;have:=f (by exact eV);exact eV
  left;exact eV
 exact fI e [.tmp 4] (by rw[d];exact eR)
def JR:AZ:={ ins:=[Cy,Cy],pre:=λ(a,b,_)=>EA a/\EA b,out:=λ(a,b,_)=>[.p .bool (CM a b==0)] }
end
section
attribute [local go_sem] XY j6
theorem Qd:Ab Tryz.prog 25 JR:=by
 refine fK [0,1,2,3,4] Tryz.func25 Tryz.ntmps25 (AE pM AH) ?_;rintro w0 O0 ⟨a,b,u⟩ c-d;simp only[JR,AM];repeat'(first|exact trivial|apply eS rfl|refine rX c ?_ ?_)
 .exact d
 exact fI c [.tmp 4]
def HE (m:Int):List (Int×List (Int×Int))->Int
 | []=>0
 | n :: r=>if n.1<0 then 2 else if IG n.2 m≠0 then IG n.2 m else HE m r
def CN (f:List (Int×List (Int×Int))):Int:=if f.length=0 then 1 else if 4096<f.length then 7 else HE f.length f
def A3T:AZ:={ ins:=[Cy],pre:=λ_=>True,out:=λ(f,_)=>[.p GK (CN f)] }
theorem II (m:Int) (l:List (Int×List (Int×Int))) {k:Nat} (h:k<l.length):HE m (l.drop k)=if (l.getD k (0,[])).1<0 then 2 else if IG (l.getD k (0,[])).2 m≠0 then IG (l.getD k (0,[])).2 m else HE m (l.drop (k+1)):=by
 rw[Tj h,AS,AT h];rfl
theorem A7x:Ab Tryz.prog 132 A3T:=by
 refine fK [0,1,2,3,4,8,12,17,26,38] Tryz.func132 Tryz.ntmps132 (AE A7w AH) ?_;rintro w0 O0 ⟨l,u⟩ a ⟨f,-⟩ -;simp only[A3T,AM];repeat'(first|exact trivial|apply eS rfl|refine rX a ?_ ?_|refine rC ?_ ?_<;>intro b<;>try(cases b;done))
 .have h1:CN l=1:=by
   have h:l.length=0:=by exact eV
   unfold CN;rw[BY h]
  exact fI a [.tmp 2] (by rw[h1];exact eR)
 .have h1:CN l=7:=by
   have h:¬l.length=0:=by exact eV
   have e:4096<l.length:=by exact eV
   unfold CN;rw[As h,BY e]
  exact fI a [.tmp 2] (by rw[h1];exact eR)
 have h1:CN l=HE l.length l:=by
  have h:¬l.length=0:=by exact eV
  have e:¬4096<l.length:=by exact eV
  unfold CN;rw[As h,As e]
 refine AJ (ι:={k:Nat//k<=l.length/\HE l.length (l.drop k)=CN l}) (λk=>⟨[(1,.bp 1 [] 0),(3,.p (.int .i64) (k.1:Int))],[(1,.box 25 true [.p F6 l])]⟩) (λk=>l.length-k.1) ⟨0,by simp[h1]⟩ (AC [(1,.nm 1)] rfl rfl ?_ ?_) (λk=>?_)
 .exact eN
 .exact eN
 obtain⟨k,hk,hf⟩:=k;repeat'(first|exact trivial|apply eS rfl|apply AB|refine rX a ?_ ?_|refine rC ?_ ?_<;>intro b<;>try(cases b;done))
 .exact eV
 .have d:k<l.length:=by exact eV
  have c:CN l=2:=by rw[<-hf,II _ _ d,BY b]
  exact fI a [.tmp 2] (by rw[c];exact eR)
 .exact eV
 .have d:k<l.length:=by exact eV
  have c:CN l=IG (l.getD k (0,[])).2 l.length:=by rw[<-hf,II _ _ d,As (by exact eV),BY b]
  exact fI a [.tmp 2] (by rw[c];exact eR)
 .exact eV
 .have d:k<l.length:=by exact eV
  refine⟨⟨k+1,by exact eV,?_⟩,by simp only;exact eV,AC [(1,.nm 1)] rfl rfl ?_ ?_⟩
  .rw[<-hf,II _ _ d,As (by exact eV),As (by simpa using b)]
  .exact eN
  exact eN
 have c:CN l=0:=by
  have hk:l.length<=k:=by exact eV
  rw[<-hf,On hk];rfl
 exact fI a [.tmp 2] (by rw[c];exact eR)
end
def IJ (x:Int×Int) (s:List (Int×Int)):Nat->Nat
 | 0=>0
 | n+1=>if x.1<(s.getD n (0,0)).1 then IJ x s n else n+1
def Ow (s:List (Int×Int)) (x:Int×Int):List (Int×Int):=s.take (IJ x s s.length)++[x]++s.drop (IJ x s s.length)
def Ac (l:List (Int×Int)):List (Int×Int):=l.foldl Ow []
theorem VS (x:Int×Int) (s:List (Int×Int)):∀n,IJ x s n<=n
 | 0=>Is _
 | n+1=>by
  unfold IJ;have:=VS x s n;split<;>omega
theorem A3U (s:List (Int×Int)) (x:Int×Int):(Ow s x).length=s.length+1:=by
 have:=VS x s s.length;simp[Ow];omega
theorem HN (l:List (Int×Int)) (x:Int×Int):Ac (l++[x])=Ow (Ac l) x:=by simp[Ac]
theorem MG:∀(l s:List (Int×Int)),(l.foldl Ow s).length=s.length+l.length
 | [],s=>by simp
 | x :: l,s=>by simp[MG l,A3U];omega
theorem Ca (l:List (Int×Int)):(Ac l).length=l.length:=by simp[Ac,MG]
def Qf:AZ:={ ins:=[DC],pre:=λ(l,_)=>l.length<=1000000,out:=λ(l,_)=>[.own 106 AW (Ac l)] }
theorem aG:Ab Tryz.prog 152 Qf:=by
 refine fK [0,2,3,4,5,6,10,30] Tryz.func152 Tryz.ntmps152 AH ?_;rintro w0 O0 ⟨l,u⟩ c s j;simp only[Qf]at j;simp only[Qf,AM];repeat'(first|exact trivial|apply eS rfl|refine rX c ?_ ?_)
 refine AJ (ι:={p:Nat//p<=l.length}) (λk=>⟨[(0,.p DC l),(3,.sr 10 AW 0 (Ac (l.take k.1)).length),(4,.p (.int .i64) (k.1:Int))],[(10,.arr 106 AW (Ac (l.take k.1)))]⟩) (λk=>l.length-k.1) ⟨0,by omega⟩ (AC [(10,.nil)] rfl rfl ?_ ?_) (λk=>?_)
 .refine eM ?_;rfl
 .refine eM ?_;rfl
 obtain⟨k,g⟩:=k;have o:(Ac (l.take k)).length=k:=by rw[Ca,OR];exact Yr g
 repeat'(first|exact trivial|apply eS rfl|refine rX c ?_ ?_|refine rC ?_ ?_<;>intro b<;>try(cases b;done))
 .refine AJ (ι:={q:Nat//q<=(Ac (l.take k)).length/\IJ (l.getD k (0,0)) (Ac (l.take k)) q=IJ (l.getD k (0,0)) (Ac (l.take k)) (Ac (l.take k)).length}) (λq=>⟨[(0,.p DC l),(3,.sr 10 AW 0 (Ac (l.take k)).length),(4,.p (.int .i64) (k:Int)),(5,.p (.int .i64) (q.1:Int))],[(10,.arr 106 AW (Ac (l.take k)))]⟩) (λq=>q.1) ⟨(Ac (l.take k)).length,by simp⟩ (eW [(10,.nm 10)]) (λq=>?_)
  obtain⟨q,m,hp⟩:=q;have h:k<l.length:=by omega
  have n:=l.length_take_le k;have d:(List.take q (Ac (List.take k l))).length=q:=by rw[OR];exact Yr m
  repeat'(first|exact trivial|apply eS rfl|apply AB|refine rX c ?_ ?_|refine rC ?_ ?_<;>intro b<;>try(cases b;done))
  .exact eV
  .exact eV
  .obtain⟨h1,a⟩:=b;obtain⟨q,rfl⟩:∃r,q=r+1:=⟨q-1,by omega⟩;have e:((q+1:Nat):Int)-1=(q:Int):=by omega
   refine⟨⟨q,by omega,?_⟩,Nat.lt_succ_self q,AC [(10,.nm 10)] rfl rfl ?_ ?_⟩
   .rw[<-hp];simp only[IJ];rw[e,To]at a;rw[BY a]
   .exact eN
   refine eM ?_;show (q:Int)+1-1=q;omega
  .refine⟨by exact eV,?_⟩;rw[d];unfold AO;omega
  .refine⟨by exact eV,?_⟩;rw[d];simp only[AO];omega
  .refine⟨by exact eV,?_⟩;rw[d];simp only[AO,UL];omega
  .exact eV
  have i:IJ (l.getD k (0,0)) (Ac (l.take k)) q=q:=by
   cases q with
   | zero=>rfl
   | succ q =>
    have e:((q+1:Nat):Int)-1=(q:Int):=by omega
    have:=b (by omega);rw[e,To]at this;simp only[IJ];rw[As (by omega)]
  have h1:=Ax l (0,0) h;have a:Ac (l.take (k+1))=_:=(Uu Ac h1).trans (HN _ _);unfold Ow at a;rw[<-hp,i]at a;refine⟨⟨k+1,by exact eV⟩,by simp only;exact eV,AC [(10,.nm 37)] rfl rfl ?_ ?_⟩
  .refine eM ?_;exact a.symm
  refine eM ?_;have f:=Uu List.length a;rw[A0,A0]at f;exact f.symm
 have hk:l.take k=l:=At (by exact eV);refine nJ c (.inl rfl) (rv:=.tmp 2) rfl ?_;simp only[Nl,KX,Jc,go_sem,Nat.reduceEqDiff,reduceCtorEq,Nat.reduceAdd,Nat.reduceSub,Nat.reduceMul,Nat.reduceLeDiff,Nat.reduceLT,Int.reduceLE,Int.reduceToNat,Int.reduceNeg,↓reduceIte];rw[hk];first|rfl|exact⟨rfl,rfl⟩|exact⟨rfl,rfl,rfl⟩
section
attribute [local go_sem] Qf
abbrev AD:=Int×List (Int×Int)
def Dm (f:List AD):Nat->List Int×List Int->Int->List Int×List Int
 | 0,s,_=>s
 | k+1,s,n=>(Ac (f.getD n.toNat (0,[])).2).foldl (λs a=>if s.1.getD a.2.toNat 0<0 then Dm f k s a.2 else s) (s.1.set n.toNat (s.2.length:Int),s.2++[n])
def LQ (l:List Int):Nat:=l.countP (λx=>decide (x<0))
def AN (f:List AD):Prop:=f.length<=100000/\∀x∈f,x.2.length<=100000/\∀a∈x.2,0<=a.2/\a.2<(f.length:Int)
def Tf (f:List AD) (s:List Int×List Int):Prop:=s.1.length=f.length/\s.2.length+LQ s.1<=f.length
theorem A3V {l:List Int} {n:Nat} {v:Int} (hn:n<l.length) (a:l.getD n 0<0) (d:0<=v):LQ (l.set n v)+1=LQ l:=by
 induction l generalizing n with
 | nil=>simp at hn
 | cons x r c =>
  cases n with
  | zero =>
   have b:x<0:=by simpa using a
   have:¬v<0:=by omega
   simp[LQ,f9,b,this]
  | succ n =>
   have h1:=c (n:=n) (by simpa using hn) (by simpa using a);simp only[LQ,AE1,f9]at h1 ⊢;omega
theorem pN {f:List AD} {s:List Int×List Int} {n:Int} (h:Tf f s) (d:0<=n) (hn:n<f.length) (b:s.1.getD n.toNat 0<0) :
  Tf f (s.1.set n.toNat (s.2.length:Int),s.2++[n])/\LQ (s.1.set n.toNat (s.2.length:Int))+1=LQ s.1:=by
 obtain⟨h1,c⟩:=h;have a:=A3V (l:=s.1) (n:=n.toNat) (v:=(s.2.length:Int)) (by omega) b (by omega);refine⟨⟨by simpa using h1,?_⟩,a⟩;simp only[A0,GO];omega
theorem A15 (s:List (Int×Int)) (x:Int×Int):(Ow s x).Perm (x :: s):=by
 unfold Ow;refine(List.perm_append_comm.append_right _).trans ?_;simp
theorem LL:∀(l s:List (Int×Int)),(l.foldl Ow s).Perm (l++s)
 | [],s=>List.Perm.refl _
 | x :: l,s=>by
  refine(LL l (Ow s x)).trans ?_;refine(List.Perm.append_left l (A15 s x)).trans ?_;exact AEk
theorem Ek (l:List (Int×Int)):(Ac l).Perm l:=by
 have:=LL l [];simpa[Ac] using this
theorem MH {f:List AD} (hf:AN f) (n:Int):List.length (f.getD n.toNat (0,[])).2<=100000:=by
 by_cases h:n.toNat<f.length
 .have a:f.getD n.toNat (0,[])∈f:=by
   rw[AS,AT h];exact UJ h
  exact(hf.2 _ a).1
 rw[AS,Ts (by omega)];simp
theorem VT {f:List AD} (hf:AN f) {n:Int} {a:Int×Int} (ha:a∈Ac (f.getD n.toNat (0,[])).2):0<=a.2/\a.2<f.length:=by
 have ha:=(Ek _).mem_iff.1 ha;by_cases h:n.toNat<f.length
 .have b:f.getD n.toNat (0,[])∈f:=by
   rw[AS,AT h];exact UJ h
  exact(hf.2 _ b).2 a ha
 rw[AS,Ts (by omega)]at ha;simp at ha
def EE (f:List AD) (k:Nat) (s:List Int×List Int) (a:Int×Int):List Int×List Int:=if s.1.getD a.2.toNat 0<0 then Dm f k s a.2 else s
theorem Y1 (f:List AD) (k:Nat) (s:List Int×List Int) (n:Int):Dm f (k+1) s n=(Ac (f.getD n.toNat (0,[])).2).foldl (EE f k) (s.1.set n.toNat (s.2.length:Int),s.2++[n]):=rfl
theorem VU {f:List AD} {k:Nat} (i:∀(s:List Int×List Int) (n:Int),Tf f s->0<=n->n<f.length->s.1.getD n.toNat 0<0->Tf f (Dm f k s n)/\LQ (Dm f k s n).1<=LQ s.1) :
  ∀(l:List (Int×Int)) (t:List Int×List Int),(∀a∈l,0<=a.2/\a.2<(f.length:Int))->Tf f t->Tf f (l.foldl (EE f k) t)/\LQ (l.foldl (EE f k) t).1<=LQ t.1
 | [],t,_,d=>⟨d,Is _⟩
 | a :: l,t,c,d=>by
  simp only[Tk];by_cases h:t.1.getD a.2.toNat 0<0
  .obtain⟨j,m⟩:=i t a.2 d (c a (by simp)).1 (c a (by simp)).2 h;have e:EE f k t a=Dm f k t a.2:=BY h;rw[e];obtain⟨o,p⟩:=VU i l _ (λb g=>c b (by simp[g])) j;exact⟨o,Tp p m⟩
  have e:EE f k t a=t:=As h;rw[e];exact VU i l t (λb g=>c b (by simp[g])) d
theorem R2 {f:List AD} (hf:AN f):∀(k:Nat) (s:List Int×List Int) (n:Int),Tf f s->0<=n->n<f.length->s.1.getD n.toNat 0<0->Tf f (Dm f k s n)/\LQ (Dm f k s n).1<=LQ s.1
 | 0,s,n,h,_,_,_=>⟨h,Is _⟩
 | k+1,s,n,h,h0,h1,d=>by
  obtain⟨e,g⟩:=pN h h0 h1 d;obtain⟨b,c⟩:=VU (R2 hf k) _ _ (λa ha=>VT hf ha) e;rw[Y1];exact⟨b,by simp only at c g;omega⟩
theorem Ju {α β:Type} (g:β->α->β) (l:List α) (d:α) (t:β) {i:Nat} (hi:i<l.length):(l.take (i+1)).foldl g t=g ((l.take i).foldl g t) (l.getD i d):=by
 rw[Ax l d hi,Yy];rfl
def LM (f:List AD) (s:List Int×List Int):List (Nat×Obj):=[(1,.box 184 true [.p Cy f,.sr 2 T3 0 s.1.length,.sr 3 T3 0 s.2.length]),(2,.arr 3 T3 s.1),(3,.arr 3 T3 s.2)]
theorem A3W (f:List AD) (hf:AN f):∀(k:Nat) (s:List Int×List Int) (n:Int),Tf f s->0<=n->n<f.length->s.1.getD n.toNat 0<0->LQ s.1<=k ->
  A9 Tryz.prog 151 [.bp 1 [] 0,.p T3 n] (LM f s) [1] (λres M=>res=.raw (.tuple #[])/\M=LM f (Dm f k s n)):=by
 intro k;induction k with
 | zero =>
  intro s n h0 h1 u B N;obtain⟨_,O⟩:=pN h0 h1 u B;omega
 | succ k J =>
  intro s n A w m x hk;obtain⟨num,g⟩:=s;obtain⟨t,v⟩:=pN A w m x;obtain⟨G,H⟩:=A;simp only at G H x t v hk;refine Kh [0,1,4,5,40,54] [] [] Tryz.func151 Tryz.ntmps151 (AE aG AH) ?_;intro w0 K O0 ρ0 c Q R;simp only[LM,Aq];repeat'(first|exact trivial|apply eS rfl|refine rX c ?_ ?_)
  .exact eV
  .have:=hf.1;simp only[AO];omega
  .have I:=MH hf n;exact⟨⟨w,m⟩,Tp I (by omega)⟩
  have l:=λa (ha:a∈Ac (f.getD n.toNat (0,[])).2)=>VT hf ha;have D:(Ac (f.getD n.toNat (0,[])).2).length<=100000:=by rw[Ca];exact MH hf n
  generalize C:Ac (f.getD n.toNat (0,[])).2=L at l D;generalize o:(num.set n.toNat (g.length:Int),g++[n])=s1 at t;have F:∀i,Tf f ((L.take i).foldl (EE f k) s1)/\LQ ((L.take i).foldl (EE f k) s1).1<=LQ s1.1:=λi=>VU (R2 hf k) _ _ (λa ha=>l a (UN ha)) t;have m:num.set n.toNat (g.length:Int)=s1.1:=by rw[<-o]
  have P:g++[n]=s1.2:=by rw[<-o]
  rw[m]at v;refine AJ (ι:={i:Nat//i<=L.length}) (λi=>⟨[(0,.bp 1 [] 0),(1,.p T3 n),(4,.p DC L),(5,.p (.int .i64) (i.1:Int))],LM f ((L.take i.1).foldl (EE f k) s1)⟩) (λi=>L.length-i.1) ⟨0,by omega⟩ (AAt [36] (AC [(1,.nm 1),(2,.nm 2),(3,.nm 3)] rfl rfl ?_ ?_)) (λi=>?_)
  .simp only[LM];refine eM ?_;simp only[AEa];rw[<-o];simp
  .exact eN
  obtain⟨i,hi⟩:=i;obtain⟨r,E⟩:=F i;have q:=λ(h:i<L.length)=>Ju (EE f k) L (0,0) s1 h;generalize z:(L.take i).foldl (EE f k) s1=b at r E q;simp only[LM];repeat'(first|exact trivial|apply eS rfl|apply AB|refine rX c ?_ ?_|refine rC ?_ ?_<;>intro j<;>try(cases j;done))
  .have d:i<L.length:=by exact eV
   have:=l _ (AF L (0,0) d);obtain⟨h1,u⟩:=r;refine⟨by exact eV,this.1,?_⟩;rw[h1];exact this.2
  .have d:i<L.length:=by exact eV
   have y:=l _ (AF L (0,0) d);refine cP 6 c ?_ ?_
   .exact eV
   refine rM c (J b (L.getD i (0,0)).2 r y.1 y.2 (by simpa using j) (by omega)) [(1,.nm 1),(2,.nm 2),(3,.nm 3)] [2,3] ?_ ?_ ?_
   .exact eN
   .simp only[LM];exact eN
   rintro _ _ ⟨rfl,rfl⟩;refine⟨[(1,.nm 1),(2,.nm 2),(3,.nm 3)],.raw (.tuple #[]),LM f (Dm f k b (L.getD i (0,0)).2),rfl,rfl,?_,?_,rfl,rfl,Bh ?_⟩
   .simp only[LM];exact eN
   .exact eN
   repeat'(first|apply eS rfl|apply AB|refine rX c ?_ ?_)
   .exact eV
   have e:EE f k b (L.getD i (0,0))=Dm f k b (L.getD i (0,0)).2:=BY (by simpa using j);refine⟨⟨i+1,by omega⟩,by simp only;omega,AC [(1,.nm 1),(2,.nm 2),(3,.nm 3)] rfl rfl ?_ ?_⟩
   .simp only[LM,q d,e];exact eN
   exact eN
  .exact eV
  .have d:i<L.length:=by exact eV
   have e:EE f k b (L.getD i (0,0))=b:=As (by simpa using j);refine⟨⟨i+1,by omega⟩,by simp only;omega,AC [(1,.nm 1),(2,.nm 2),(3,.nm 3)] rfl rfl ?_ ?_⟩
   .simp only[q d,e];exact eN
   exact eN
  have hk:L.take i=L:=At (by exact eV);rw[hk]at z;have h1:Dm f (k+1) (num,g) n=b:=by rw[Y1,C,<-z,<-o]
  rw[h1];exact fM c [] (.raw (.tuple #[])) rfl ⟨rfl,rfl⟩
end
section
attribute [local go_sem] Qf
def j8 (f:List AD) (s:List Int×List Int):Prop:=∀n∈s.2,0<=n/\n<(f.length:Int)
theorem XZ {f:List AD} (hf:AN f):∀(k:Nat) (s:List Int×List Int) (n:Int),j8 f s->0<=n->n<f.length->j8 f (Dm f k s n)
 | 0,s,n,h,_,_=>h
 | k+1,s,n,h,h0,h1=>by
  rw[Y1];have key:∀(l:List (Int×Int)) (t:List Int×List Int),(∀a∈l,0<=a.2/\a.2<(f.length:Int))->j8 f t->j8 f (l.foldl (EE f k) t):=by
   intro l;induction l with
   | nil=>intro t _ d;exact d
   | cons a l i =>
    intro t e d;simp only[Tk];refine i _ (λb g=>e b (by simp[g])) ?_;unfold EE;split
    .exact XZ hf k t a.2 d (e a (by simp)).1 (e a (by simp)).2
    exact d
  refine key _ _ (λa ha=>VT hf ha) ?_;intro m c;simp only[IF,Tu]at c;rcases c with c|rfl
  .exact h m c
  exact⟨h0,h1⟩
def F9 (f:List AD) (root:Int):List Int×List Int:=Dm f f.length (List.replicate f.length (-1),[]) root
def ZI (num:List Int) (a:Int×Int):Int×Int:=(a.1,num.getD a.2.toNat 0)
def MJ (f:List AD) (num:List Int) (n:Int):AD:=((f.getD n.toNat (0,[])).1,(Ac (f.getD n.toNat (0,[])).2).map (ZI num))
def IK (f:List AD) (root:Int):List AD:=(F9 f root).2.map (MJ f (F9 f root).1)
theorem j9 (m:Nat):LQ (List.replicate m (-1))=m:=by
 induction m with
 | zero=>rfl
 | succ m a=>simp only[LQ,ADV,f9]at a ⊢;simp[a]
theorem tr0 (f:List AD):Tf f (List.replicate f.length (-1),[]):=⟨by simp,by simp[j9]⟩
theorem y3 {f:List AD} {n:Int} (h0:0<=n) (h1:n<f.length):(List.replicate f.length (-1:Int)).getD n.toNat 0<0:=by
 have:n.toNat<f.length:=by omega
 simp[AS,Yx,this]
theorem y4 {f:List AD} (hf:AN f) {n:Int} (h0:0<=n) (h1:n<f.length):Tf f (F9 f n)/\j8 f (F9 f n) :=
 ⟨(R2 hf _ _ n (tr0 f) h0 h1 (y3 h0 h1)).1,XZ hf _ _ n (λm a=>by simp at a) h0 h1⟩
theorem Xa {α b:Type} (g:α->b) (h:b->α) (L:List α) (d:α) {k:Nat} (hk:k<L.length) (u:α->α):((L.take k).map u++L.drop k).set k (u (L.getD k d))=(L.take (k+1)).map u++L.drop (k+1)/\((L.take k).map u++L.drop k).getD k d=L.getD k d:=by
 have h1:((L.take k).map u).length=k:=by simp;omega
 have a:L.drop k=L.getD k d :: L.drop (k+1):=by
  rw[Tj hk,AS,AT hk];rfl
 constructor
 .rw[Ax L d hk,AAh _ _ (by omega),h1,Yq,a];simp
 rw[AS,UC (by omega),h1,Yq,a];rfl
def Qg:AZ:={ ins:=[Cy,T3],pre:=λ(f,n,_)=>AN f/\0<=n/\n<(List.length f:Int),out:=λ(f,n,_)=>[.p Cy (IK f n)] }
theorem y5:Ab Tryz.prog 114 Qg:=by
 refine fK [0,1,2,4,5,6,7,8,9,10,11,19,40,60] Tryz.func114 Tryz.ntmps114 (AE aG AH) ?_;rintro w0 O0 ⟨f,root,u⟩ d-⟨hf,l,m⟩;simp only[Qg,AM];have G:=hf.1;repeat'(first|exact trivial|apply eS rfl|refine rX d ?_ ?_)
 refine AJ (ι:={i:Nat//i<=f.length}) (λi=>⟨[(1,.p T3 root),(2,.bp 2 [] 0),(4,.bp 4 [] 0),(5,.bp 14 [] 0),(6,.p (.int .i64) (i.1:Int))],[(2,.box 25 true [.p F6 f]),(4,.box 25 true [.raw (.slice none 0 0)]),(14,.box 184 true [.p Cy f,.sr 10 T3 0 i.1,.raw (.slice none 0 0)]),(10,.arr 3 T3 (List.replicate i.1 (-1)))]⟩) (λi=>f.length-i.1) ⟨0,by omega⟩ (AC [(2,.nm 2),(4,.nm 4),(14,.nm 14),(10,.nil)] rfl rfl ?_ ?_) (λi=>?_)
 .refine eM ?_;rfl
 .exact eN
 obtain⟨i,hi⟩:=i;repeat'(first|exact trivial|apply eS rfl|apply AB|refine rX d ?_ ?_|refine rC ?_ ?_<;>intro h<;>try(cases h;done))
 .simp only[AO];omega
 .exact eV
 .have hi:i<List.length f:=by exact eV
  refine⟨⟨i+1,by omega⟩,by simp only;omega,AC [(2,.nm 2),(4,.nm 4),(14,.nm 14),(10,.nm 10)] rfl rfl ?_ ?_⟩
  .refine eM ?_;rw[List.replicate_succ'];simp
  exact eN
 have A:i=List.length f:=by exact eV
 subst A;have w:=y4 hf l m;refine cP 2 d ?_ ?_
 .trivial
 refine rM d (A3W f hf (List.length f) (List.replicate (List.length f) (-1),[]) root (tr0 f) l m (y3 l m) (by rw[j9];exact Is _)) [(1,.nm 14),(2,.nm 10),(3,.nil)] [10] ?_ ?_ ?_
 .exact eN
 .simp only[LM];refine eM ?_;simp
 rintro _ _ ⟨rfl,rfl⟩;refine⟨[(14,.nm 1),(101,.nm 2),(102,.nm 3)],.raw (.tuple #[]),[(14,.box 184 true [.p Cy f,.sr 101 T3 0 (F9 f root).1.length,.sr 102 T3 0 (F9 f root).2.length]),(101,.arr 3 T3 (F9 f root).1),(102,.arr 3 T3 (F9 f root).2)],rfl,rfl,?_,?_,rfl,rfl,Bh ?_⟩
 .simp only[LM,F9];exact eN
 .exact eN
 have z:IK f root=(F9 f root).2.map (MJ f (F9 f root).1):=rfl;rw[z];generalize F9 f root=s at w;obtain⟨num,c⟩:=s;obtain⟨⟨r,t⟩,j⟩:=w;simp only at r t;have j:∀n∈c,0<=n/\n<(List.length f:Int):=j;repeat'(first|exact trivial|apply eS rfl|refine rX d ?_ ?_)
 refine AJ (ι:={i:Nat//i<=c.length}) (λi=>⟨[(2,.bp 2 [] 0),(4,.bp 4 [] 0),(5,.bp 14 [] 0),(7,.bp 7 [] 0),(8,.p (.int .i64) (i.1:Int))],[(2,.box 25 true [.p F6 f]),(4,.box 25 true [.raw (.slice none 0 0)]),(14,.box 184 true [.p Cy f,.sr 101 T3 0 num.length,.sr 102 T3 0 c.length]),(101,.arr 3 T3 num),(102,.arr 3 T3 c),(7,.box 25 true [.sr 200 HL 0 i.1]),(200,.arr 93 HL ((c.take i.1).map (MJ f num)))]⟩) (λi=>c.length-i.1) ⟨0,by omega⟩ (eW [(2,.nm 2),(4,.nm 4),(14,.nm 14),(101,.nm 101),(102,.nm 102),(7,.nm 7),(200,.nil)]) (λi=>?_)
 obtain⟨i,hi⟩:=i;repeat'(first|exact trivial|apply eS rfl|refine rX d ?_ ?_|refine rC ?_ ?_<;>intro h<;>try(cases h;done))
 .have hi:i<c.length:=by exact eV
  exact⟨by exact eV,j _ (AF c 0 hi)⟩
 .exact Tp (MH hf _) (by omega)
 .have hi:i<c.length:=by exact eV
  have q:=λa (ha:a∈Ac (f.getD (Int.toNat (c.getD i 0)) (0,[])).2)=>VT hf ha;have v:MJ f num (c.getD i 0)=((f.getD (Int.toNat (c.getD i 0)) (0,[])).1,(Ac (f.getD (Int.toNat (c.getD i 0)) (0,[])).2).map (ZI num)):=rfl;have B:=MH hf (c.getD i 0);generalize List.getD f (Int.toNat (c.getD i 0)) (0,[])=x at *;obtain⟨E,o⟩:=x;simp only at q v B;have F:=Ca o;generalize Ac o=L at *;refine AJ (ι:={k:Nat//k<=L.length}) (λk=>⟨[(2,.bp 2 [] 0),(4,.bp 4 [] 0),(5,.bp 14 [] 0),(7,.bp 7 [] 0),(8,.p (.int .i64) (i:Int)),(9,.bp 9 [] 0),(10,.sr 56 AW 0 L.length),(11,.p (.int .i64) (k.1:Int))],[(56,.arr 106 AW ((L.take k.1).map (ZI num)++L.drop k.1)),(9,.box 93 true [.p T3 E,.p DC o]),(2,.box 25 true [.p F6 f]),(4,.box 25 true [.raw (.slice none 0 0)]),(14,.box 184 true [.p Cy f,.sr 101 T3 0 num.length,.sr 102 T3 0 c.length]),(101,.arr 3 T3 num),(102,.arr 3 T3 c),(7,.box 25 true [.sr 200 HL 0 i]),(200,.arr 93 HL ((c.take i).map (MJ f num)))]⟩) (λk=>L.length-k.1) ⟨0,by omega⟩ (eW [(2,.nm 2),(4,.nm 4),(14,.nm 14),(101,.nm 101),(102,.nm 102),(7,.nm 7),(200,.nm 200),(9,.nm 9),(56,.nm 56)]) (λk=>?_)
  obtain⟨k,hk⟩:=k;repeat'(first|exact trivial|apply eS rfl|apply AB|refine rX d ?_ ?_|refine rC ?_ ?_<;>intro h<;>try(cases h;done))
  .have g:k<L.length:=by exact eV
   have e:=(Xa (ZI num) (λb=>b) L (0,0) g (ZI num)).2;rw[e];have:=q _ (AF L (0,0) g);rw[r];exact⟨by exact eV,this,by exact eV⟩
  .exact eV
  .have g:k<L.length:=by exact eV
   have e:=Xa (ZI num) (λb=>b) L (0,0) g (ZI num);refine⟨⟨k+1,by omega⟩,by simp only;omega,AC [(2,.nm 2),(4,.nm 4),(14,.nm 14),(101,.nm 101),(102,.nm 102),(7,.nm 7),(200,.nm 200),(9,.nm 9),(56,.nm 56)] rfl rfl ?_ ?_⟩
   .refine eM ?_;rw[e.2];exact e.1
   exact eN
  .simp only[AO];have:=t;omega
  .exact eV
  have g:L.take k=L:=At (by exact eV);have y:L.drop k=[]:=On (by exact eV);refine⟨⟨i+1,by omega⟩,by simp only;omega,AC [(2,.nm 2),(4,.nm 4),(14,.nm 14),(101,.nm 101),(102,.nm 102),(7,.nm 7),(200,.nm 200)] rfl rfl ?_ ?_⟩
  .refine eM ?_;rw[g,y,UF,Ax c 0 hi,UH,UD,AAs,v];have C:List.take i ((c.take i).map (MJ f num))=(c.take i).map (MJ f num):=At (by rw[OF,OR];omega);have D:List.take L.length (L.map (ZI num))=L.map (ZI num):=At (by rw[OF];omega);rw[C,D]
  exact eN
 have hk:c.take i=c:=At (by exact eV);rw[hk];refine fI d [.cell 4 25] (by first|exact eR|refine Wf ?_;exact At (by rw[OF];exact eV))
end
section
attribute [local go_sem] A3T Qg
theorem Xb {n:Int}:∀ {l seen:List (Int×Int)},Gn n seen l=0->∀a∈l,0<=a.1/\0<=a.2/\a.2<n
 | [],_,_,a,ha=>by cases ha
 | x :: l,seen,h,a,ha=>by
  simp only[Gn]at h;split at h
  .cases h
  split at h
  .cases h
  rename_i h1 _;rcases By.1 ha with rfl|ha
  .omega
  exact Xb h a ha
theorem Kq {m:Int}:∀ {f:List (Int×List (Int×Int))},HE m f=0->∀x∈f,0<=x.1/\∀a∈x.2,0<=a.1/\0<=a.2/\a.2<m
 | [],_,x,c=>by cases c
 | y :: f,h,x,c=>by
  simp only[HE]at h;split at h
  .cases h
  split at h
  .rename_i h1 b;exact absurd h b
  rename_i h1 b;have b:IG y.2 m=0:=IN b;rcases By.1 c with rfl|c
  .exact⟨by omega,Xb b⟩
  exact Kq h x c
def Xc (f:List (Int×List (Int×Int))):Prop:=∀x∈f,x.2.length<=100000
theorem IL {f:List (Int×List (Int×Int))} (h:CN f=0) (hs:Xc f):AN f/\0<f.length:=by
 unfold CN at h;split at h
 .cases h
 split at h
 .cases h
 refine⟨⟨by omega,λx b=>⟨hs x b,λa ha=>?_⟩⟩,by omega⟩;have:=(Kq h x b).2 a ha;exact⟨this.2.1,this.2.2⟩
def BC (f:List AD):List AD×Int:=if CN f=0 then (IK f 0,0) else ([],CN f)
def eE:AZ:={ ins:=[Cy],pre:=λ(f,_)=>Xc f,out:=λ(f,_)=>[.p Cy (BC f).1,.p GK (BC f).2] }
theorem A3X:Ab Tryz.prog 82 eE:=by
 refine fK [0,1,2,3,4,8] Tryz.func82 Tryz.ntmps82 (AE A7x (AE y5 AH)) ?_;rintro w0 O0 ⟨f,u⟩ b-hs;simp only[eE,AM];repeat'(first|exact trivial|apply eS rfl|refine rX b ?_ ?_|refine rC ?_ ?_<;>intro a<;>try(cases a;done))
 .have h:¬CN f=0:=by simpa using a
  have e:BC f=([],CN f):=As h;exact fI b [.cell 2 25,.tmp 3] (by rw[e];exact eR)
 .have h:CN f=0:=by simpa using a
  have:=IL h hs;exact⟨this.1,by exact eV⟩
 have h:CN f=0:=by simpa using a
 have e:BC f=(IK f 0,0):=BY h;exact fI b [.cell 2 25,.tmp 3] (by rw[e];exact eR)
end
def f6 (l:List Int) (n:Int):Bool:=l.any λx=>x==n
def aH:AZ:={ ins:=[T3],pre:=λ_=>True,out:=λ(t,_)=>[.p Cy [(t,[])]] }
theorem A7y:Ab Tryz.prog 27 aH:=by
 refine fK [0,2] Tryz.func27 Tryz.ntmps27 AH ?_;rintro w0 O0 ⟨t,u⟩ a - -;simp only[aH,AM];repeat'(first|exact trivial|apply eS rfl|apply AB|refine rX a ?_ ?_|refine rC ?_ ?_<;>intro b<;>try(cases b;done))
 exact fI a [.cell 2 25]
section
attribute [local go_sem] Rz eE JR
def ftB (a:Int×Int):Bool:=decide (a.1<64)
def ndB (x:AD):Bool:=decide (x.1<256)&&x.2.all ftB
def Dn (f:List AD):Bool:=Gy f&&f.all ndB&&((BC f).2==0&&(CM (BC f).1 f==0))
theorem MK {f:List AD} (h:Gy f=true):f.length<=12/\∀x∈f,x.2.length<=12:=by
 unfold Gy at h;simp only[An,DO,ON]at h;exact h
theorem pO {f:List AD} (hf:AN f) {n:Int} (h0:0<=n) (h1:n<f.length):EA (IK f n):=by
 obtain⟨⟨b,c⟩,_⟩:=y4 hf h0 h1;have d:=hf.1;refine⟨?_,λx a=>?_⟩
 .unfold IK;rw[OF];omega
 obtain⟨m,_,rfl⟩:=If.1 a;unfold MJ;simp only[OF,Ca];exact MH hf m
theorem kA {f:List AD} (hs:Xc f):EA (BC f).1:=by
 unfold BC;split
 .rename_i h;obtain⟨h1,b⟩:=IL h hs;exact pO h1 (by omega) (by omega)
 exact⟨by simp,λx a=>by cases a⟩
end
section
def pP:AZ:={ ins:=[T3],pre:=λ_=>True,out:=λ_=>[.p .bool false] }
attribute [local go_sem] pP
def Tg (a b:Int):Int:=if a<b then -1 else if b<a then 1 else 0
def Gp:AZ:={ ins:=[T3,T3],pre:=λ_=>True,out:=λ(a,b,_)=>[.p T3 (Tg a b)] }
attribute [local go_sem] Gp
def Cn:AZ:={ ins:=[AW,AW],pre:=λ_=>True,out:=λ(a,b,_)=>[.p T3 (Tg (Prod.fst a) (Prod.fst b))] }
attribute [local go_sem] Cn
theorem A3Y:Ab Tryz.prog 224 pP:=by
 refine fK [0,2] Tryz.func224 Tryz.ntmps224 AH ?_;rintro w0 O0 ⟨x,u⟩ a - -;simp only[pP,AM];repeat'(first|exact trivial|apply eS rfl|refine rX a ?_ ?_)
 exact fI a [.tmp 2]
theorem ZJ:Ab Tryz.prog 208 Gp:=by
 refine fK [0,1,4,5,6,11,12,13,16,19] Tryz.func208 Tryz.ntmps208 (AE A3Y AH) ?_;rintro w0 O0 ⟨a,b,u⟩ c - -;simp only[Gp,AM];repeat'(first|exact trivial|apply eS rfl|refine rX c ?_ ?_|refine rC ?_ ?_<;>intro d<;>try(cases d;done))
 .have e:Tg a b=-1:=BY d;exact fI c [.tmp 4] (by rw[e];exact eR)
 .have e:Tg a b=1:=by unfold Tg;rw[As (by omega),BY d]
  exact fI c [.tmp 4] (by rw[e];exact eR)
 have e:Tg a b=0:=by unfold Tg;rw[As (by omega),As (by omega)]
 exact fI c [.tmp 4] (by rw[e];exact eR)
theorem El:Ab Tryz.prog 192 Cn:=by
 refine fK [0,1,2,3,4] Tryz.func192 Tryz.ntmps192 (AE ZJ AH) ?_;rintro w0 O0 ⟨a,b,u⟩ c - -;simp only[Cn,AM];repeat'(first|exact trivial|apply eS rfl|refine rX c ?_ ?_)
 exact fI c [.tmp 4]
def kB (l:List (Int×Int)):Prop:=∀i,i+1<l.length->(l.getD i (0,0)).1<(l.getD (i+1) (0,0)).1
end
def Co (f:List AD):Nat->List Int->Int->List Int
 | 0,o,_=>o
 | k+1,o,n=>(f.getD n.toNat (0,[])).2.foldl (λo a=>if a.2∈o then o else Co f k o a.2) (o++[n])
def AY (f:List AD) (k:Nat) (o:List Int) (a:Int×Int):List Int:=if a.2∈o then o else Co f k o a.2
theorem Bt (f:List AD) (k:Nat) (o:List Int) (n:Int):Co f (k+1) o n=(f.getD n.toNat (0,[])).2.foldl (AY f k) (o++[n]):=rfl
structure Iy (f:List AD) (o:List Int):Prop where
 nd:o.Nodup
 rng:∀x∈o,0<=x/\x<(f.length:Int)
theorem Iy.len {f:List AD} {o:List Int} (h:Iy f o):o.length<=f.length:=by
 have h1:(o.map Int.toNat).Nodup:=by
  rw[List.Nodup,Uz];refine h.nd.imp_of_mem λ{a b} ha c g e=>g ?_;have:=h.rng a ha;have:=h.rng b c;omega
 have:=Dz f.length (o.map Int.toNat) h1 (λj d=>by
  obtain⟨x,i,rfl⟩:=If.1 d;have:=h.rng x i;omega)
 simpa using this
theorem Iy.snoc {f:List AD} {o:List Int} (h:Iy f o) {n:Int} (h0:0<=n) (h1:n<f.length) (hn:n∉o):Iy f (o++[n]):=by
 refine⟨?_,λx c=>?_⟩
 .rw[U0];refine⟨h.nd,by simp,λa ha b d=>?_⟩;have:b=n:=by simpa using d
  subst this;intro e;subst e;exact hn ha
 rcases IF.1 c with c|c
 .exact h.rng x c
 have:x=n:=by simpa using c
 subst this;exact⟨h0,h1⟩
theorem Dw {f:List AD} {k:Nat} (e:∀(o:List Int) (n:Int),Iy f o->0<=n->n<f.length->n∉o->Iy f (Co f k o n)/\o <+: Co f k o n) :
  ∀(l:List (Int×Int)) (o:List Int),(∀a∈l,0<=a.2/\a.2<(f.length:Int))->Iy f o->Iy f (l.foldl (AY f k) o)/\o <+: l.foldl (AY f k) o
 | [],o,_,h=>⟨h,Uj _⟩
 | a :: l,o,c,h=>by
  simp only[Tk];have d:Iy f (AY f k o a)/\o <+: AY f k o a:=by
   unfold AY;split
   .exact⟨h,Uj _⟩
   rename_i hn;exact e o a.2 h (c a (by simp)).1 (c a (by simp)).2 hn
  obtain⟨g,i⟩:=Dw e l _ (λb j=>c b (by simp[j])) d.1;exact⟨g,d.2.trans i⟩
theorem BA {f:List AD} (hf:AN f) {n:Int} {a:Int×Int} (ha:a∈(f.getD n.toNat (0,[])).2):0<=a.2/\a.2<f.length:=by
 by_cases h:n.toNat<f.length
 .have b:f.getD n.toNat (0,[])∈f:=by
   rw[AS,AT h];exact UJ h
  exact(hf.2 _ b).2 a ha
 rw[AS,Ts (by omega)]at ha;simp at ha
theorem DK {f:List AD} (hf:AN f):∀(k:Nat) (o:List Int) (n:Int),Iy f o->0<=n->n<f.length->n∉o->Iy f (Co f k o n)/\o <+: Co f k o n
 | 0,o,n,h,_,_,_=>⟨h,Uj _⟩
 | k+1,o,n,h,h0,h1,d=>by
  obtain⟨b,c⟩:=Dw (DK hf k) _ _ (λa ha=>BA hf ha) (h.snoc h0 h1 d);rw[Bt];exact⟨b,(AE2 o [n]).trans c⟩
theorem IM {f:List AD} (hf:AN f):∀(k:Nat) (o:List Int) (n:Int),Iy f o->0<=n->n<f.length->n∉o->f.length-o.length<=k ->
  n∈Co f k o n/\∀x∈Co f k o n,x∈o\/∀a∈(f.getD x.toNat (0,[])).2,a.2∈Co f k o n
 | 0,o,n,h,h0,h1,m,hk=>by
  have:=(h.snoc h0 h1 m).len;simp only[A0,GO]at this;omega
 | k+1,o,n,h,h0,h1,m,hk=>by
  have key:∀(l:List (Int×Int)) (t:List Int),(∀a∈l,0<=a.2/\a.2<(f.length:Int))->Iy f t->f.length-t.length<=k ->
    (∀a∈l,a.2∈l.foldl (AY f k) t)/\∀x∈l.foldl (AY f k) t,x∈t\/∀a∈(f.getD x.toNat (0,[])).2,a.2∈l.foldl (AY f k) t:=by
   intro l;induction l with
   | nil=>exact λt _ _ _=>⟨λa ha=>(by cases ha),λx c=>.inl c⟩
   | cons a l z =>
    intro t p r u;simp only[Tk];have v:Iy f (AY f k t a)/\t <+: AY f k t a/\a.2∈AY f k t a/\∀x∈AY f k t a,x∈t\/∀b∈(f.getD x.toNat (0,[])).2,b.2∈AY f k t a:=by
     unfold AY;split
     .rename_i hn;exact⟨r,Uj _,hn,λx c=>.inl c⟩
     rename_i hn;have q:=p a (by simp);obtain⟨e,g⟩:=DK hf k t a.2 r q.1 q.2 hn;obtain⟨i,j⟩:=IM hf k t a.2 r q.1 q.2 hn u;exact⟨e,g,i,j⟩
    obtain⟨e,g,i,j⟩:=v;have A:=g.length_le;obtain⟨w,y⟩:=z (AY f k t a) (λb d=>p b (by simp[d])) e (by omega);obtain⟨_,s⟩:=Dw (DK hf k) l (AY f k t a) (λb d=>p b (by simp[d])) e;refine⟨λb d=>?_,λx c=>?_⟩
    .rcases By.1 d with rfl|d
     .exact s.subset i
     exact w b d
    rcases y x c with c|c
    .rcases j x c with c|c
     .exact .inl c
     exact .inr λb d=>s.subset (c b d)
    exact .inr c
  have hs:=h.snoc h0 h1 m;obtain⟨e,g⟩:=key (f.getD n.toNat (0,[])).2 (o++[n]) (λa ha=>BA hf ha) hs (by simp only[A0,GO];omega);obtain⟨_,i⟩:=Dw (DK hf k) (f.getD n.toNat (0,[])).2 (o++[n]) (λa ha=>BA hf ha) hs;rw[Bt];refine⟨i.subset (by simp),λx c=>?_⟩;rcases g x c with c|c
  .rcases IF.1 c with c|c
   .exact .inl c
   have:x=n:=by simpa using c
   subst this;exact .inr e
  exact .inr c
def B1 (o:List Int) (x:Int):Int:=if x∈o then (o.idxOf x:Int) else 0
def HO (o:List Int) (a:Int×Int):Int×Int:=(a.1,B1 o a.2)
def Cp (f:List AD) (o:List Int) (n:Int):AD:=((f.getD n.toNat (0,[])).1,(f.getD n.toNat (0,[])).2.map (HO o))
def AL (f:List AD) (root:Int):List AD:=(Co f f.length [] root).map (Cp f (Co f f.length [] root))
def Fs (f:List AD):Prop:=∀x∈f,kB x.2/\x.2.length<=200
theorem pQ {f:List AD} (hf:Fs f) (n:Int):kB (f.getD n.toNat (0,[])).2/\(f.getD n.toNat (0,[])).2.length<=200:=by
 by_cases h:n.toNat<f.length
 .have a:f.getD n.toNat (0,[])∈f:=by
   rw[AS,AT h];exact UJ h
  exact hf _ a
 rw[AS,Ts (by omega)];exact⟨λi hi=>by simp at hi,by simp⟩
theorem Iz {l:List (Int×Int)} (h:kB l):Ac l=l:=by
 have key:∀i,i<=l.length->Ac (l.take i)=l.take i:=by
  intro i;induction i with
  | zero=>intro _;rfl
  | succ i d =>
   intro hi;rw[Ax l (0,0) (by omega),HN,d (by omega)];have b:(l.take i).length=i:=by rw[OR];omega
   have c:IJ (l.getD i (0,0)) (l.take i) (l.take i).length=(l.take i).length:=by
    rw[b];cases i with
    | zero=>rfl
    | succ i =>
     have h1:=h i (by omega);have a:(l.take (i+1)).getD i (0,0)=l.getD i (0,0):=by
      simp only[AS];rw[UE];simp
     simp only[IJ];rw[a,As (by omega)]
   unfold Ow;rw[c,Tl,bY,UF]
 have:=key l.length (Is _)
 rwa [Tl]at this
structure LN (f:List AD) (num o:List Int):Prop where
 len:num.length=f.length
 get:∀j,j<f.length->num.getD j 0=if (j:Int)∈o then (o.idxOf (j:Int):Int) else -1
theorem LN.neg {f:List AD} {num o:List Int} (h:LN f num o) {n:Int} (h0:0<=n) (h1:n<f.length):num.getD n.toNat 0<0↔n∉o:=by
 have:=h.get n.toNat (by omega);rw[show ((n.toNat:Nat):Int)=n by omega]at this;rw[this];split
 .rename_i a;constructor
  .intro e;omega
  intro e;exact absurd a e
 rename_i a;exact⟨λ_=>a,λ_=>by omega⟩
theorem aI {o:List Int} {x n:Int} (h:x∈o):(o++[n]).idxOf x=o.idxOf x:=by rw[ADM,BY h]
theorem aJ {o:List Int} {n:Int} (h:n∉o):(o++[n]).idxOf n=o.length:=by rw[ADM,As h];simp
theorem LN.snoc {f:List AD} {num o:List Int} (h:LN f num o) {n:Int} (h0:0<=n) (h1:n<f.length) (hn:n∉o):LN f (num.set n.toNat (o.length:Int)) (o++[n]):=by
 refine⟨by simpa using h.len,λj b=>?_⟩;have d:j<num.length:=by rw[h.len];exact b
 by_cases e:j=n.toNat
 .subst e;have en:((n.toNat:Nat):Int)=n:=by omega
  rw[en];simp only[AS];rw[ADw d,BY (by simp),aJ hn];simp
 have en:¬(j:Int)=n:=by omega
 simp only[AS];rw[List.getElem?_set_ne (λc=>e c.symm)];have:=h.get j b;simp only[AS]at this;rw[this];by_cases a:(j:Int)∈o
 .rw[BY a,BY (by simp[a]),aI a]
 rw[As a,As (by simp[a,en])]
theorem Xd {f:List AD} (hf:AN f) (hs:Fs f):∀(k:Nat) (s:List Int×List Int) (n:Int),LN f s.1 s.2->Iy f s.2->0<=n->n<f.length->n∉s.2->(Dm f k s n).2=Co f k s.2 n/\LN f (Dm f k s n).1 (Dm f k s n).2
 | 0,s,n,h,_,_,_,_=>⟨rfl,h⟩
 | k+1,s,n,h,w,h0,h1,m=>by
  have key:∀(l:List (Int×Int)) (t:List Int×List Int),(∀a∈l,0<=a.2/\a.2<(f.length:Int))->LN f t.1 t.2->Iy f t.2->(l.foldl (EE f k) t).2=l.foldl (AY f k) t.2/\LN f (l.foldl (EE f k) t).1 (l.foldl (EE f k) t).2:=by
   intro l;induction l with
   | nil=>exact λt _ d _=>⟨rfl,d⟩
   | cons a l z =>
    intro t o d j;simp only[Tk];have q:=o a (by simp);have p:=d.neg q.1 q.2;have x:(EE f k t a).2=AY f k t.2 a/\LN f (EE f k t a).1 (EE f k t a).2/\Iy f (EE f k t a).2:=by
     unfold EE AY;by_cases c:a.2∈t.2
     .rw[BY c,As (by rw[p];exact λe=>e c)];exact⟨rfl,d,j⟩
     rw[As c,BY (by rw[p];exact c)];obtain⟨g,i⟩:=Xd hf hs k t a.2 d j q.1 q.2 c;exact⟨g,i,by rw[g];exact(DK hf k t.2 a.2 j q.1 q.2 c).1⟩
    obtain⟨g,i,u⟩:=x;obtain⟨r,y⟩:=z (EE f k t a) (λb v=>o b (by simp[v])) i u;rw[g]at r;exact⟨r,y⟩
  rw[Y1,Bt,Iz (pQ hs n).1];exact key _ (s.1.set n.toNat (s.2.length:Int),s.2++[n]) (λa ha=>BA hf ha) (h.snoc h0 h1 m) (w.snoc h0 h1 m)
theorem EY {f:List AD} (hf:AN f) (hs:Fs f) {root:Int} (h0:0<=root) (h1:root<f.length):IK f root=AL f root:=by
 have l:LN f (List.replicate f.length (-1)) []:=⟨by simp,λj k=>by simp[AS,Yx,k]⟩;have d:Iy f []:=⟨by simp,λx e=>by cases e⟩;obtain⟨c,b⟩:=Xd hf hs f.length (List.replicate f.length (-1),[]) root l d h0 h1 (by simp);have c:(F9 f root).2=Co f f.length [] root:=c;have b:LN f (F9 f root).1 (F9 f root).2:=b;have i:=(IM hf f.length [] root d h0 h1 (by simp) (by simp)).2;have m:=(DK hf f.length [] root d h0 h1 (by simp)).1;unfold IK AL;rw[c]at b ⊢;generalize Co f f.length [] root=o at *;refine Tq λx e=>?_;unfold MJ Cp;rw[Iz (pQ hs x).1];refine Uu _ (Tq λa ha=>?_);unfold ZI HO B1;have h:a.2∈o:=by
  rcases i x e with g|g
  .cases g
  exact g a ha
 have n:=BA hf ha;have:=b.get a.2.toNat (by omega);rw[show ((a.2.toNat:Nat):Int)=a.2 by omega]at this;rw[this,BY h,BY h]
def mR (o:List Int):List (Int×Int):=(List.range o.length).map λi=>(o.getD i 0,(i:Int))
theorem kC (o:List Int) (n:Int):mR (o++[n])=mR o++[(n,(o.length:Int))]:=by
 unfold mR;rw[A0,GO,UQ,UH]
 congr 1
 .refine Tq λi hi=>?_;have:i<o.length:=Tx.1 hi;simp only[AS];rw[Tz this]
 simp[AS]
theorem A16 (k:Int) (a b:List (Int×Int)):BR T3 T3 k (a++b)=(BR T3 T3 k a).or (BR T3 T3 k b):=by
 induction a with
 | nil=>rfl
 | cons x a c =>
  simp only[Yk,BR];split
  .rfl
  exact c
theorem D0 {α:Type} {p:List α->Prop} (h0:p []) (h1:∀l a,p l->p (l++[a])) (l:List α):p l:=by
 have:∀n (l:List α),l.length=n->p l:=by
  intro n;induction n with
  | zero=>intro l b;rw[ADt.1 b];exact h0
  | succ n d =>
   intro l b;have c:l≠[]:=by intro e;subst e;simp at b
   rw[<-List.dropLast_concat_getLast c];exact h1 _ _ (d _ (by simp[b]))
 exact this _ l rfl
theorem R3 (o:List Int) (x:Int):BR T3 T3 x (mR o)=if x∈o then some (o.idxOf x:Int) else none:=by
 induction o using D0 with
 | h0=>rfl
 | h1 o n b =>
  rw[kC,A16,b];by_cases a:x∈o
  .rw[BY a,BY (by simp[a]),aI a];rfl
  rw[As a];by_cases hn:x=n
  .subst hn;rw[BY (by simp),aJ a];simp[BR,He]
  rw[As (by simp[a,hn])];have:((x==n)=true)↔False:=by simp[hn]
  simp[BR,He,hn]
theorem A17 (k v:Int) (l:List (Int×Int)) (h:BR T3 T3 k l=none):Fa T3 T3 k v l=l++[(k,v)]:=by
 induction l with
 | nil=>rfl
 | cons x l b =>
  simp only[BR]at h;simp only[Fa,Yk];split at h
  .cases h
  rename_i a;rw[As a,b h]
theorem kD {o:List Int} {n:Int} (hn:n∉o):Fa T3 T3 n (o.length:Int) (mR o)=mR (o++[n]):=by
 rw[A17 _ _ _ (by rw[R3,As hn]),kC]
theorem y6 (o:List Int) (x:Int):(BR T3 T3 x (mR o)).getD 0=B1 o x:=by
 rw[R3];unfold B1;split<;>rfl
theorem Kr (o:List Int) (x:Int):(BR T3 T3 x (mR o)).isSome=decide (x∈o):=by
 rw[R3];split<;>simp[*]
end Go.Proofs.YtapkhdkbkodbjaaGreat.Fw
