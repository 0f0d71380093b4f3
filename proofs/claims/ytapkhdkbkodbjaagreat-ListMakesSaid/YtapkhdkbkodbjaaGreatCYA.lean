/- Contracts of the program's and the reference's functions, and the plain laws of what they compute: C1 C2 C9 C10 C11 C12 C13 C3 C4 C5 C6 C7 C8 C14 C15 C16 C17 C18 C19 C20 C21 C22 C23 N1 N2 C24 C25 N3 C26 C27 C28 C29 N4 C30 C31 C32 C33 C34 C35 D1 Sorted R07f D2 D3 I1 I2 I3 R07g G1 G3 PS PA PB. -/
import Derived.Test.YtapkhdkbkodbjaaGreatCZJ
import Derived.Test.YtapkhdkbkodbjaaGreatCZI
set_option linter.unusedVariables false
set_option linter.unusedSimpArgs false
namespace Go.Proofs.YtapkhdkbkodbjaaGreat.Fw
open Go
attribute [local irreducible] Ev
attribute [local go_sem] i5 AM List.toList_toArray Br evG evK Yy Et Kw G9 F5 IA Sv OI DK DS NE Cc Cr frz oC Gz DR A5 Fu Bb AV.frz AV.frzs AV.drp AV.drps AV.names AV.namess aq G2 Le Km Tw JW Bc Bh Jw EZ Iz Ea I8 I0 I9 VV P0 HO Ko Fy ET VW Re qUn Jx JA Ly FO Dn Ja Kp Eb Tx DZ Ec FD Rf JB OG FZ OE P6 Rg Lz Jb Kq Ed Dp HZ Dr H9 Da FE Db Ee F0 Cc Cp Py Rd Oj Gw JZ JY Kn QC Ss OH L4 L2 Kt Su L3 Ku cF QE QD AV.trn AV.trns E7 DJ Obj.trn KC jL Dq Eg EU Ef Cg FF Aq lk He G0 H6 bin oB Y4 oE Sq zf1 zfs pfs AV.cells CH Jv Pz Ks QB CZ OD Ty.cell1 Iy E8 Dm GQ ND E6 Kl Lx RZ FY HN Nu Tu VU Lw Kj cD g9 Sp H5 Cq HY RV.flat Ty.flat Ty.size St.add upd del Bd Value.oneCell' Ls Ty.dflt Ix QX IK Qj List.take_succ_cons List.take_zero List.length_cons jC jD Qi J9 ML Hw KA A3z F6 NQ NR NS NT Rq Rr NU JH Vl Option.map_some Option.map_none Option.bind_some Option.getD_some Option.getD_none Option.isNone_none Option.isNone_some Bool.and_true Bool.true_and Bool.and_false Bool.false_and Bool.not_true Bool.not_false if_true if_false List.length_cons List.length_nil and_true true_and and_self List.all_cons List.all_nil List.append_nil List.nil_append List.cons_append List.getElem?_cons_zero List.getElem?_cons_succ List.getElem?_nil List.map_cons List.map_nil List.set_cons_zero List.set_cons_succ List.isEmpty_nil List.isEmpty_cons decide_true decide_false beq_self_eq_true bne_self_eq_false Nat.zero_add Nat.add_zero Nat.sub_zero Int.toNat_natCast Int.toNat_zero Int.toNat_one List.take_length List.length_append List.length_singleton true_or or_true or_self false_or or_false Ty.agg.injEq Ty.slice.injEq Ty.prod.injEq Ty.int.injEq Option.some.injEq beq_iff_eq MJ evMG evMQ opM IM MF B5 J8 HP Qa J6 IL JJ K9 Lj Oz OO PI UB MG Qc Qd J7 Ab Ak Op.operands Call.operands List.filterMap_cons List.filterMap_nil List.append_eq Bool.cond_false_right Bool.cond_true_left cond_true cond_false implies_true decide_eq_true_eq beq_true beq_false Bool.or_true Bool.or_false Bool.true_or Bool.false_or Option.isSome_some Array.empty_append List.append_toArray Fv NF FG H7 cE QA Fz GZ GY JC H8 Kr L1 Y5 oD Ir inB Kv F1 Gx Jy Aj jE List.drop_zero Dg X1 dF CT LD CR AV.fgt AV.fgts Obj.fgt Aw Ah Ab DM Iv BM HA List.any_cons List.any_nil pB jF dG jG MO Rx qs List.flatMap_cons List.flatMap_nil List.cons_append tn dJ Hb List.take_succ_cons List.drop_succ_cons dP Gf BB t8 NZ B9 CS Ae FJ K8 Bj FI Dt II JG Gd IJ
attribute [local go_sem] ty1 ty2 ty3 ty4 ty5 ty9 A7p A7q A7r A7s A7t A7u A7v A7w A7x A7y A7z A7A A7B A7C A7D A7E A7F A7G A7H A7I A7J A7K A7L A7M A7N A7O A7P A7Q A7R A7S A7T A7U A7V A7W A7X A7Y A7Z A80 A81 A82 A83 A84 A85 A86 A87 A88 A89 A8a A8b A8c A8d A8e A8f A8g A8h A8i A8j A8k A8l A8m A8n A8o A8p A8q A8r A8s A8t A8u A8v A8w A8x uF uG uH uI uJ uK uL uM uN uP uQ uR uS uT uU uV uW uX uY uZ u3 u4 u5 u6 u7 u9 vC vE vF vG vH vI vJ vL vM vO vP vQ vS vU vV vW vX vY vZ v4 v5 v6 v7 v8 v9 wA wB wC wD wF wG wH wI wJ wK wL wM wN wP wQ wR wS wT wU wV wW wX wY wZ w5 w6 w9 xA xB xC xE xF xG xH xI xJ xL xM xN xO xP xQ xR xS xT xV xW xX xY xZ x5 x6 x7 x8 x9 yA yB yC yD yE yF yG yH yI yJ yK yL yM yN yO yP yQ yR yS yT yU yV yW yX yY yZ y3 y4 y5 y6 y7 y8 y9 zA zB zC zD zE zF zG zH zI zJ zK zL zM zN zO zP zQ zR zS zT zU zV zW zX zY zZ z0
set_option maxRecDepth 100000
set_option maxHeartbeats 4000000
section
def Jh (a b c:Int):Bool:=decide (a<=c)&&decide (c<=b)
def pM:AZ:={ ins:=[.int .u8],pre:=λ_=>True,out:=λ(c,_)=>[.p .bool (Jh 48 57 c)] }
attribute [local go_sem] pM
def pN:AZ:={ ins:=[.int .u8],pre:=λ_=>True,out:=λ(c,_)=>[.p .bool (Jh 65 90 c)] }
attribute [local go_sem] pN
def pO:AZ:={ ins:=[.int .u8],pre:=λ_=>True,out:=λ(c,_)=>[.p .bool (Jh 97 122 c)] }
attribute [local go_sem] pO
theorem jX:Ad Tryz.prog 242 pM:=by
 refine fK [0,2] Tryz.func242 Tryz.ntmps242 AH ?_;rintro w0 O0 ⟨c,u⟩ a - -;simp only[pM,AM];repeat'(first|exact trivial|apply eS rfl|refine rX a ?_ ?_)
 exact fI a [.tmp 2] (by unfold Jh;exact eR)
theorem A4f:Ad Tryz.prog 249 pN:=by
 refine fK [0,2] Tryz.func249 Tryz.ntmps249 AH ?_;rintro w0 O0 ⟨c,u⟩ a - -;simp only[pN,AM];repeat'(first|exact trivial|apply eS rfl|refine rX a ?_ ?_)
 exact fI a [.tmp 2] (by unfold Jh;exact eR)
theorem A4g:Ad Tryz.prog 250 pO:=by
 refine fK [0,2] Tryz.func250 Tryz.ntmps250 AH ?_;rintro w0 O0 ⟨c,u⟩ a - -;simp only[pO,AM];repeat'(first|exact trivial|apply eS rfl|refine rX a ?_ ?_)
 exact fI a [.tmp 2] (by unfold Jh;exact eR)
def WP (c:Int) (big:Bool):Bool:=Jh 48 57 c||c==45||big&&Jh 65 90 c||!big&&Jh 97 122 c
def A4h:AZ:={ ins:=[.int .u8,.bool],pre:=λ_=>True,out:=λ(c,b,_)=>[.p .bool (WP c b)] }
attribute [local go_sem] A4h
theorem A8z:Ad Tryz.prog 243 A4h:=by
 refine fK [0,1,4] Tryz.func243 Tryz.ntmps243 (AF jX (AF A4f (AF A4g AH))) ?_;rintro w0 O0 ⟨c,b,u⟩ a - -;simp only[A4h,AM];repeat'(first|exact trivial|apply eS rfl|refine rX a ?_ ?_)
 exact fI a [.tmp 4] (by unfold WP;exact eR)
abbrev chr (s:ByteArray) (i:Nat):Int:=((s.data.getD i 0).toNat:Int)
def R4 (s:ByteArray):Bool:=decide ((s.size:Int)<1)||decide (32<(s.size:Int))||Jh 48 57 (chr s 0)||chr s 0==45
def FB (s:ByteArray) (big:Bool):Bool:=!R4 s&&(List.range s.size).all λi=>WP (chr s i) big
def pP:AZ:={ ins:=[T9,.bool],pre:=λ_=>True,out:=λ(s,b,_)=>[.p .bool (FB s b)] }
attribute [local go_sem] pP
theorem jY:Ad Tryz.prog 231 pP:=by
 refine fK [0,1,4,5,23,27,35] Tryz.func231 Tryz.ntmps231 (AF jX (AF A8z AH)) ?_;rintro w0 O0 ⟨s,b,u⟩ d - -;simp only[pP,AM];repeat'(first|exact trivial|apply eS rfl|refine rX d ?_ ?_|refine rC ?_ ?_<;>intro a<;>try(cases a;done))
 .constructor
  .intro h;simp only[UL,Yl,To]at h;have:1<=(s.size:Int):=by omega
   exact this
  intro h;simp only[UL,Yl,To]at h;have:1<=(s.size:Int):=by omega
  exact this
 .have h1:R4 s=true:=by
   unfold R4 chr;simp only[Ub,DO,YV];exact a
  have c:FB s b=false:=by unfold FB;rw[h1];rfl
  exact fI d [.tmp 4] (by rw[c];exact eR)
 have h1:R4 s=false:=by
  unfold R4 chr;simp only[Yl,To,ZO];exact⟨⟨⟨by omega,by omega⟩,a.1.2⟩,a.2⟩
 have g:s.size<=32:=by omega
 refine AK (ι:={k:Nat//k<=s.size/\((List.range k).all λi=>WP (chr s i) b)=true}) (λk=>⟨[(0,.p T9 s),(1,.p .bool b),(5,.p (.int .i64) (k.1:Int))],[]⟩) (λk=>s.size-k.1) ⟨0,by simp⟩ (eW []) (λk=>?_)
 obtain⟨k,hk,f⟩:=k;repeat'(first|exact trivial|apply eS rfl|apply AB|refine rX d ?_ ?_|refine rC ?_ ?_<;>intro a<;>try(cases a;done))
 .exact a
 .have e:k<s.size:=by omega
  have c:FB s b=false:=by
   unfold FB;rw[Yx];refine .inr (AAv.2 λh=>?_);have:=OR.1 h k (Ue.2 e);rw[show WP (chr s k) b=false from a]at this;cases this
  exact fI d [.tmp 4] (by rw[c];exact eR)
 .omega
 .have e:k<s.size:=by omega
  refine⟨⟨k+1,by omega,?_⟩,by simp only;omega,AD [] rfl rfl ?_ ?_⟩
  .rw[Yf,AF3,f];rw[AFT,AAk,List.all_nil,AGm];exact a
  .exact eN
  exact eN
 have e:k=s.size:=by omega
 subst e;have c:FB s b=true:=by unfold FB;rw[h1,f];rfl
 exact fI d [.tmp 4] (by rw[c];exact eR)
def A4i:AZ:={ ins:=[T9],pre:=λ_=>True,out:=λ(s,_)=>[.p .bool (FB s false)] }
def WQ:AZ:={ ins:=[T9],pre:=λ_=>True,out:=λ(s,_)=>[.p .bool (FB s true)] }
theorem A8A:Ad Tryz.prog 218 A4i:=by
 refine fK [0,2] Tryz.func218 Tryz.ntmps218 (AF jY AH) ?_;rintro w0 O0 ⟨s,u⟩ a - -;simp only[A4i,AM];repeat'(first|exact trivial|apply eS rfl|refine rX a ?_ ?_)
 exact fI a [.tmp 2]
theorem pQ:Ad Tryz.prog 217 WQ:=by
 refine fK [0,2] Tryz.func217 Tryz.ntmps217 (AF jY AH) ?_;rintro w0 O0 ⟨s,u⟩ a - -;simp only[WQ,AM];repeat'(first|exact trivial|apply eS rfl|refine rX a ?_ ?_)
 exact fI a [.tmp 2]
end
section
theorem Na {α:Type} (l:List α) (d:α) (p:α->Bool) {k:Nat} (h:k<l.length):(l.take (k+1)).any p=((l.take k).any p||p (l.getD k d)):=by
 rw[Av l d h,AFi];simp
theorem JN {α:Type} (l:List α) (d:α) (p:α->Bool) {k:Nat} (h:k<l.length) (hp:p (l.getD k d)=true):l.any p=true :=
 Ua.2 ⟨_,AE l d h,hp⟩
def Af (l:List ByteArray) (s:ByteArray):Bool:=l.any λx=>Ac x s
def Ji:AZ:={ ins:=[GP,T9],pre:=λ_=>True,out:=λ(l,n,_)=>[.p .bool (Af l n)],lend:=true }
attribute [local go_sem] Ji
theorem HD:Ad Tryz.prog 201 Ji:=by
 refine fK [0,1,4,5,9,17] Tryz.func201 Tryz.ntmps201 AH ?_;rintro w0 O0 ⟨l,n,u⟩ a ⟨⟨hl,-⟩,-⟩ -;simp only[AQ]at hl;simp only[Ji,AM];repeat'(first|exact trivial|apply eS rfl|refine rX a ?_ ?_)
 refine AK (ι:={k:Nat//k<=l.length/\(l.take k).any (λx=>Ac x n)=false}) (λk=>⟨[(0,.p GP l),(1,.p T9 n),(5,.p (.int .i64) (k.1:Int))],[]⟩) (λk=>l.length-k.1) ⟨0,by simp⟩ (eW []) (λk=>?_)
 obtain⟨k,hk,c⟩:=k;repeat'(first|exact trivial|apply eS rfl|apply AB|refine rX a ?_ ?_|refine rC ?_ ?_<;>intro b<;>try(cases b;done))
 .exact eV
 .have d:k<l.length:=by exact eV
  have h1:Af l n=true:=JN l ByteArray.empty _ d b;exact fI a [.tmp 4] (by rw[h1];exact eR)
 .exact eV
 .have d:k<l.length:=by exact eV
  refine⟨⟨k+1,by exact eV,?_⟩,by simp only;exact eV,AD [] rfl rfl ?_ ?_⟩
  .rw[Na l ByteArray.empty _ d,c];exact b
  .exact eN
  exact eN
 have hk:l.take k=l:=At (by exact eV);rw[hk]at c;have h1:Af l n=false:=c;exact fI a [.tmp 4] (by rw[h1];exact eR)
def Yz (l:List ByteArray) (s:ByteArray):Nat:=(l.takeWhile λx=>Cj x s).length
theorem pR {α:Type} (p:α->Bool) (d:α):∀(l:List α) (k:Nat),k<=(l.takeWhile p).length->((k<l.length/\p (l.getD k d)=true)↔k+1<=(l.takeWhile p).length)
 | [],k,h=>by simp
 | x :: l,k,h=>by
  by_cases hx:p x=true
  .rw[List.takeWhile_cons,Bq hx]at h ⊢;cases k with
   | zero=>simp[hx]
   | succ k =>
    have:=pR p d l k (by simpa using h);simpa using this
  rw[List.takeWhile_cons,As hx]at h ⊢;have hk:k=0:=by simpa using h
  subst hk;simp[hx]
theorem AAe {α:Type} (p:α->Bool) (l:List α):(l.takeWhile p).length<=l.length:=(List.takeWhile_sublist p).length_le
def Dv (l:List ByteArray) (s:ByteArray):List ByteArray :=
 if (decide (Yz l s<l.length)&&Ac (l.getD (Yz l s) ByteArray.empty) s)=true then l else l.take (Yz l s)++[s]++l.drop (Yz l s)
def dT:AZ:={ ins:=[GP,T9],pre:=λ(l,_,_)=>List.length l<=100000,out:=λ(l,n,_)=>[.p GP (Dv l n)] }
attribute [local go_sem] dT
theorem R5:Ad Tryz.prog 194 dT:=by
 refine fK [0,1,4,5,6,18,32] Tryz.func194 Tryz.ntmps194 AH ?_;rintro w0 O0 ⟨l,n,u⟩ c-hl;have hl:l.length<=100000:=hl;simp only[dT,AM];repeat'(first|exact trivial|apply eS rfl|refine rX c ?_ ?_)
 refine AK (ι:={k:Nat//k<=Yz l n}) (λk=>⟨[(0,.p GP l),(1,.p T9 n),(5,.raw (.slice none 0 0)),(6,.p (.int .i64) (k.1:Int))],[]⟩) (λk=>l.length-k.1) ⟨0,by simp⟩ (eW []) (λk=>?_)
 obtain⟨k,hk⟩:=k;have d:=AAe (λx=>Cj x n) l;have i:=pR (λx=>Cj x n) ByteArray.empty l k hk;simp only;repeat'(first|exact trivial|apply eS rfl|apply AB|refine rX c ?_ ?_|refine rC ?_ ?_<;>intro a<;>try(cases a;done))
 .exact λh=>h
 .have h1:k<l.length/\Cj (l.getD k ByteArray.empty) n=true:=⟨by exact eV,a.2⟩;exact eV
 .have h1:k<l.length/\Cj (l.getD k ByteArray.empty) n=true:=⟨by exact eV,a.2⟩;exact⟨⟨k+1,i.1 h1⟩,by simp only;omega,eW []⟩
 .exact λh=>h
 .rename_i f;have g:k=Yz l n:=by
   refine AAg hk (Nat.le_of_not_lt λh=>?_);have:=i.2 h;rw[f (Do.2 this.1)]at this;cases this.2
  have e:Dv l n=l:=by
   unfold Dv;rw[<-g,Bq];rw[An,DO];exact⟨Do.1 a.1,a.2⟩
  exact fI c [.tmp 4] (by rw[e];exact eR)
 .have j:=Yn k l;have b:k<=l.length:=UR hk d;simp only[AQ];exact⟨US.2 b,by dsimp only[Ty.den]at *;omega⟩
 .have j:=Yn k l;have b:k<=l.length:=UR hk d;simp only[AQ];dsimp only[Ty.den]at *;omega
 .have j:=Yn k l;have b:k<=l.length:=UR hk d;have o:(l.drop k).length<=l.length:=by rw[YY];omega
  simp only[AQ];exact⟨US.2 b,by dsimp only[Ty.den]at *;omega⟩
 rename_i f;have g:k=Yz l n:=by
  refine AAg hk (Nat.le_of_not_lt λh=>?_);have:=i.2 h;rw[f (Do.2 this.1)]at this;cases this.2
 have e:Dv l n=l.take k++[n]++l.drop k:=by
  unfold Dv;rw[<-g,As];rw[An,DO];intro h;rw[a (Do.2 h.1)]at h;cases h.2
 have b:k<=l.length:=UR hk d;have m:(l.take k).length+1+(l.drop k).length=(l.take k++[n]++l.drop k).length:=by simp only[BY,IS]
 rw[m,<-e];refine Fl [38] ?_;exact fI c [.tmp 4]
end
section
def GS (b:List Int) (i:Int):Int:=if i<b.length then b.getD i.toNat 0 else 0
def jZ:AZ:={ ins:=[BN,T3],pre:=λ(_,i,_)=>(0:Int)<=i,out:=λ(b,i,_)=>[.p Qp (GS b i)],lend:=true }
attribute [local go_sem] jZ
theorem z6:Ad Tryz.prog 154 jZ:=by
 refine fK [0,1,4,8] Tryz.func154 Tryz.ntmps154 AH ?_;rintro w0 O0 ⟨b,i,u⟩ c-hi;simp only[jZ,AM];repeat'(first|exact trivial|apply eS rfl|refine rX c ?_ ?_|refine rC ?_ ?_<;>intro a<;>try(cases a;done))
 .exact⟨hi,a⟩
 .have h1:GS b i=b.getD i.toNat 0:=by unfold GS;rw[Bq a]
  exact fI c [.tmp 4] (by rw[h1];exact eR)
 have h1:GS b i=0:=by unfold GS;rw[As (AAm.2 a)]
 exact fI c [.tmp 4] (by rw[h1];exact eR)
def Cu (b:List Int):Nat->Nat
 | 0=>0
 | n+1=>if b.getD n 0=0 then Cu b n else n+1
def BP (b:List Int):List Int:=b.take (Cu b b.length)
theorem WR (b:List Int):∀n,Cu b n<=n
 | 0=>NO _
 | n+1=>by
  unfold Cu;split
  .exact Nat.le_succ_of_le (WR b n)
  exact NO _
def LG:AZ:={ ins:=[BN],pre:=λ(b,_)=>List.length b<=100000,out:=λ(b,_)=>[.p BN (BP b)] }
attribute [local go_sem] LG
theorem Nb:Ad Tryz.prog 155 LG:=by
 refine fK [0,2,3,15] Tryz.func155 Tryz.ntmps155 AH ?_;rintro w0 O0 ⟨b,u⟩ d-f;have f:b.length<=100000:=f;simp only[LG,AM];repeat'(first|exact trivial|apply eS rfl|refine rX d ?_ ?_)
 refine AK (ι:={n:Nat//n<=b.length/\Cu b n=Cu b b.length}) (λn=>⟨[(0,.p BN b),(3,.p (.int .i64) (n.1:Int))],[]⟩) (λn=>n.1) ⟨b.length,NO _,rfl⟩ (eW []) (λn=>?_)
 obtain⟨n,hn,g⟩:=n;simp only;repeat'(first|apply eS rfl|apply AB|refine rX d ?_ ?_|refine rC ?_ ?_<;>intro c<;>try(cases c;done))
 .constructor
  .exact eV
  intro h;refine⟨?_,?_⟩<;>exact eV
 .exact eV
 .obtain⟨h1,a⟩:=c;obtain⟨m,rfl⟩:∃m,n=m+1:=⟨n-1,by omega⟩;have e:(((m+1:Nat):Int)-1)=(m:Int):=by omega
  rw[e]at a;have a:b.getD m 0=0:=a;have j:Cu b m=Cu b b.length:=by
   rw[<-g];show _=if b.getD m 0=0 then Cu b m else m+1
   rw[Bq a]
  refine⟨⟨m,by omega,j⟩,by simp,AD [] rfl rfl ?_ ?_⟩
  .exact eN
  simp only[e];exact eN
 .have k:=Yn n b;simp only[AQ];exact⟨US.2 hn,by dsimp only[Ty.den]at *;omega⟩
 have i:Cu b n=n:=by
  cases n with
  | zero=>rfl
  | succ m =>
   have e:(((m+1:Nat):Int)-1)=(m:Int):=by omega
   rw[e]at c;have a:=c (by omega);have a:¬b.getD m 0=0:=a;show (if b.getD m 0=0 then Cu b m else m+1)=m+1;rw[As a]
 have h1:BP b=b.take n:=by unfold BP;rw[<-g,i]
 rw[<-h1];refine Fl [18] ?_;exact fI d [.tmp 2]
end
section
attribute [local go_sem] jZ LG
def A4j (w:Int) (r:Int):Bool:=B7 .and .u64 (Y3 .u64 w r) 1==1
def WT (b:List Int) (i:Int):Bool:=if (decide (i<0)||decide ((b.length:Int)<=i.tdiv 64))=true then false else A4j (b.getD (i.tdiv 64).toNat 0) (i.tmod 64)
def A4k:AZ:={ ins:=[BN,T3],pre:=λ_=>True,out:=λ(b,i,_)=>[.p .bool (WT b i)],lend:=true }
theorem AB5 {w:Int} (h0:0<=w) (r:Int):0<=Y3 .u64 w r/\Y3 .u64 w r<=w:=by
 unfold Y3;have hp:(0:Int)<2 ^ (min r.toNat IntKind.u64.bits):=Int.pow_pos (by decide);rw[Int.fdiv_eq_ediv_of_nonneg _ (Int.le_of_lt hp)];exact⟨Int.ediv_nonneg h0 (Int.le_of_lt hp),Int.ediv_le_self _ h0⟩
theorem A4l:Ad Tryz.prog 205 A4k:=by
 refine fK [0,1,4,13] Tryz.func205 Tryz.ntmps205 AH ?_;rintro w0 O0 ⟨b,i,u⟩ c ⟨⟨k,g⟩,d,-⟩ -;have d:Kh .i64 i:=d;rw[NU]at d;have f:0<=i->Int.tdiv i 64=i / 64/\Int.tmod i 64=i % 64:=λh=>⟨Yq h,ABP h⟩;simp only[A4k,AM];repeat'(first|exact trivial|apply eS rfl|refine rX c ?_ ?_|refine rC ?_ ?_<;>intro a<;>try(cases a;done))
 .intro h;have h0:0<=i:=by simpa using h
  obtain⟨e1,e2⟩:=f h0;rw[e1];refine⟨by decide,?_,?_⟩<;>exact eV
 .have h1:WT b i=false:=by
   unfold WT;rw[Bq];rw[Ub,DO,DO];exact a
  exact fI c [.tmp 4] (by rw[h1];exact eR)
 .obtain⟨h0,j⟩:=a;obtain⟨e1,e2⟩:=f h0;rw[e1]at j;have e:Kh .u64 (b.getD (i / 64).toNat 0):=g _ (AE b 0 (by exact eV));rw[JH]at e;have hs:=AB5 e.1 (i % 64);rw[e1,e2];refine⟨⟨by decide,by exact eV,by exact eV⟩,⟨by exact eV,by exact eV⟩,⟨by decide,by exact eV,by exact eV⟩,⟨by exact eV,by exact eV⟩,by exact eV,hs.1,AAc hs.2 e.2⟩
 have h1:WT b i=A4j (b.getD (i.tdiv 64).toNat 0) (i.tmod 64):=by
  unfold WT;rw[As];rw[Ub,DO,DO];rintro (h|h)<;>omega
 exact fI c [.tmp 4] (by rw[h1];unfold A4j;exact eR)
end
section
attribute [local go_sem] jZ LG
def Gg (op:BinOp) (a b:List Int) (n:Nat):List Int:=(List.range n).map λi=>B7 op .u64 (a.getD i 0) (GS b (i:Int))
theorem Ej (op:BinOp) (a b:List Int) (n:Nat):(Gg op a b n).length=n:=by simp[Gg]
theorem Z3 (op:BinOp) (a b:List Int) (n:Nat):Gg op a b (n+1)=Gg op a b n++[B7 op .u64 (a.getD n 0) (GS b (n:Int))]:=by simp[Gg,Yf]
def Gh (a b:List Int):List Int:=BP (Gg .and a b a.length)
def A4m:AZ:={ ins:=[BN,BN],pre:=λ(a,_,_)=>List.length a<=100000,out:=λ(a,b,_)=>[.p BN (Gh a b)] }
theorem A4n:Ad Tryz.prog 116 A4m:=by
 refine fK [0,1,4,5,6,10] Tryz.func116 Tryz.ntmps116 (AF z6 (AF Nb AH)) ?_;rintro w0 O0 ⟨a,b,u⟩ c-ha;have ha:a.length<=100000:=ha;simp only[A4m,AM];repeat'(first|exact trivial|apply eS rfl|refine rX c ?_ ?_)
 refine AK (ι:={n:Nat//n<=a.length}) (λn=>⟨[(0,.p BN a),(1,.p BN b),(5,.sr 23 Qp 0 n.1),(6,.p (.int .i64) (n.1:Int))],[(23,.arr 186 Qp (Gg .and a b n.1))]⟩) (λn=>a.length-n.1) ⟨0,Is _⟩ (AD [(23,.nil)] rfl rfl ?_ ?_) (λn=>?_)
 .refine eM ?_;rfl
 .exact eN
 obtain⟨n,hn⟩:=n;have g:=Ej .and a b n;have hs:=Z3 .and a b n;simp only;repeat'(first|exact trivial|apply eS rfl|apply AB|refine rX c ?_ ?_|refine rC ?_ ?_<;>intro d<;>try(cases d;done))
 .refine⟨d,?_⟩;simp only[AQ];dsimp only[Ty.den]at *;omega
 .exact eV
 .have e:n<a.length:=by exact eV
  refine⟨⟨n+1,by omega⟩,by simp only;omega,AD [(23,.nm 23)] rfl rfl ?_ ?_⟩
  .simp only[hs];refine eM ?_;rw[At (by rw[g];exact NO _)]
  exact eN
 have e:n=a.length:=by exact eV
 subst e;refine Fl [23] ?_;have f:(Gg .and a b a.length).take a.length=Gg .and a b a.length:=At (by rw[Ej];exact NO _);repeat'(first|apply eS rfl|refine rX c ?_ ?_)
 .rw[f,Ej];exact ha
 rw[f];exact fI c [.tmp 4] (by unfold Gh;exact eR)
def R6 (a b:List Int):List Int:=BP (Gg .andNot a b a.length)
def pS:AZ:={ ins:=[BN,BN],pre:=λ(a,_,_)=>List.length a<=100000,out:=λ(a,b,_)=>[.p BN (R6 a b)] }
attribute [local go_sem] pS
theorem A4o:Ad Tryz.prog 188 pS:=by
 refine fK [0,1,4,5,6,10] Tryz.func188 Tryz.ntmps188 (AF z6 (AF Nb AH)) ?_;rintro w0 O0 ⟨a,b,u⟩ c-ha;have ha:a.length<=100000:=ha;simp only[pS,AM];repeat'(first|exact trivial|apply eS rfl|refine rX c ?_ ?_)
 refine AK (ι:={n:Nat//n<=a.length}) (λn=>⟨[(0,.p BN a),(1,.p BN b),(5,.sr 23 Qp 0 n.1),(6,.p (.int .i64) (n.1:Int))],[(23,.arr 186 Qp (Gg .andNot a b n.1))]⟩) (λn=>a.length-n.1) ⟨0,Is _⟩ (AD [(23,.nil)] rfl rfl ?_ ?_) (λn=>?_)
 .refine eM ?_;rfl
 .exact eN
 obtain⟨n,hn⟩:=n;have g:=Ej .andNot a b n;have hs:=Z3 .andNot a b n;simp only;repeat'(first|exact trivial|apply eS rfl|apply AB|refine rX c ?_ ?_|refine rC ?_ ?_<;>intro d<;>try(cases d;done))
 .refine⟨d,?_⟩;simp only[AQ];dsimp only[Ty.den]at *;omega
 .exact eV
 .have e:n<a.length:=by exact eV
  refine⟨⟨n+1,by omega⟩,by simp only;omega,AD [(23,.nm 23)] rfl rfl ?_ ?_⟩
  .simp only[hs];refine eM ?_;rw[At (by rw[g];exact NO _)]
  exact eN
 have e:n=a.length:=by exact eV
 subst e;refine Fl [23] ?_;have f:(Gg .andNot a b a.length).take a.length=Gg .andNot a b a.length:=At (by rw[Ej];exact NO _);repeat'(first|apply eS rfl|refine rX c ?_ ?_)
 .rw[f,Ej];exact ha
 rw[f];exact fI c [.tmp 4] (by unfold R6;exact eR)
def Ex (a b:List Int):Bool:=((R6 a b).length:Int)==0
def Qq:AZ:={ ins:=[BN,BN],pre:=λ(a,_,_)=>List.length a<=100000,out:=λ(a,b,_)=>[.p .bool (Ex a b)],lend:=true }
attribute [local go_sem] Qq
theorem R7:Ad Tryz.prog 147 Qq:=by
 refine fK [0,1,4] Tryz.func147 Tryz.ntmps147 (AF A4o AH) ?_;rintro w0 O0 ⟨a,b,u⟩ c-ha;have ha:a.length<=100000:=ha;simp only[Qq,AM];repeat'(first|exact trivial|apply eS rfl|refine rX c ?_ ?_)
 .exact ha
 exact fI c [.tmp 4] (by unfold Ex;exact eR)
def F7 (a b:List Int):Bool:=Ex a b&&Ex b a
def dU:AZ:={ ins:=[BN,BN],pre:=λ(a,b,_)=>List.length a<=100000/\List.length b<=100000,out:=λ(a,b,_)=>[.p .bool (F7 a b)],lend:=true }
theorem A1z:Ad Tryz.prog 204 dU:=by
 refine fK [0,1,4] Tryz.func204 Tryz.ntmps204 (AF R7 AH) ?_;rintro w0 O0 ⟨a,b,u⟩ c-⟨ha,d⟩;simp only[dU,AM];repeat'(first|exact trivial|apply eS rfl|refine rX c ?_ ?_)
 .exact⟨ha,λ_=>d⟩
 exact fI c [.tmp 4] (by unfold F7;exact eR)
end
section
attribute [local go_sem] A4k
def KG (a b:List Int):Bool:=decide (a=b)
def WU:AZ:={ ins:=[BN,BN],pre:=λ_=>True,out:=λ(a,b,_)=>[.p .bool (KG a b)],lend:=true }
theorem z7:Ad Tryz.prog 153 WU:=by
 refine fK [0,1,4,5,10,14,25] Tryz.func153 Tryz.ntmps153 AH ?_;rintro w0 O0 ⟨a,b,u⟩ d ⟨⟨ha,-⟩,-⟩ -;simp only[AQ]at ha;simp only[WU,AM];repeat'(first|exact trivial|apply eS rfl|refine rX d ?_ ?_|refine rC ?_ ?_<;>intro c<;>try(cases c;done))
 .have h1:KG a b=false:=by
   unfold KG;rw[To];rintro rfl;exact c rfl
  exact fI d [.tmp 4] (by rw[h1];exact eR)
 have f:a.length=b.length:=by
  have:(a.length:Int)=(b.length:Int):=by simpa using c
  exact Int.ofNat_inj.1 this
 refine AK (ι:={k:Nat//k<=a.length/\a.take k=b.take k}) (λk=>⟨[(0,.p BN a),(1,.p BN b),(5,.p (.int .i64) (k.1:Int))],[]⟩) (λk=>a.length-k.1) ⟨0,Is _,rfl⟩ (eW []) (λk=>?_)
 obtain⟨k,hk,hf⟩:=k;simp only;repeat'(first|exact trivial|apply eS rfl|apply AB|refine rX d ?_ ?_|refine rC ?_ ?_<;>intro c<;>try(cases c;done))
 .exact⟨c,by rw[<-f];exact c⟩
 .have e:k<a.length:=by exact eV
  have h1:KG a b=false:=by
   unfold KG;rw[To];rintro rfl;exact c rfl
  exact fI d [.tmp 4] (by rw[h1];exact eR)
 .exact eV
 .have e:k<a.length:=by exact eV
  have g:a.getD k 0=b.getD k 0:=by simpa using c
  refine⟨⟨k+1,by omega,?_⟩,by simp only;omega,AD [] rfl rfl ?_ ?_⟩
  .rw[Av a 0 e,Av b 0 (by omega),hf];rw[show a.getD k 0=b.getD k 0 from g]
  .exact eN
  exact eN
 have e:k=a.length:=by exact eV
 subst e;rw[UO,f,UO]at hf;have h1:KG a b=true:=by unfold KG;rw[hf];simp
 exact fI d [.tmp 4] (by rw[h1];exact eR)
end
section
attribute [local go_sem] A4k
def OV (b:List Int) (n:Nat):List Int:=((List.range n).filter λ(i:Nat)=>WT b (i:Int)).map λ(i:Nat)=>(i:Int)
def IU (b:List Int):List Int:=OV b (64*b.length)
theorem pT (b:List Int) (n:Nat):OV b (n+1)=OV b n++if WT b (n:Int)=true then [(n:Int)] else []:=by
 unfold OV;rw[Yf,AFa,UZ]
 congr 1
 rw[Yr,AFG];split<;>rfl
theorem A1A (b:List Int) (n:Nat):(OV b n).length<=n:=by
 unfold OV;rw[OF];exact UR (Yw _ _) (by simp)
def A4p:AZ:={ ins:=[BN],pre:=λ(b,_)=>List.length b<=100000,out:=λ(b,_)=>[.p Ft (IU b)] }
attribute [local go_sem] A4p
theorem A8B:Ad Tryz.prog 223 A4p:=by
 refine fK [0,2,3,4,9,14] Tryz.func223 Tryz.ntmps223 (AF A4l AH) ?_;rintro w0 O0 ⟨b,u⟩ c-e;have e:b.length<=100000:=e;simp only[A4p,AM];repeat'(first|exact trivial|apply eS rfl|refine rX c ?_ ?_)
 refine AK (ι:={n:Nat//n<=64*b.length}) (λn=>⟨[(0,.p BN b),(3,.sr 18 T3 0 (OV b n.1).length),(4,.p (.int .i64) (n.1:Int))],[(18,.arr 3 T3 (OV b n.1))]⟩) (λn=>64*b.length-n.1) ⟨0,Is _⟩ (AD [(18,.nil)] rfl rfl ?_ ?_) (λn=>?_)
 .refine eM ?_;rfl
 .refine eM ?_;rfl
 obtain⟨n,hn⟩:=n;have f:=A1A b n;have hs:=pT b n;simp only;repeat'(first|exact trivial|apply eS rfl|apply AB|refine rX c ?_ ?_|refine rC ?_ ?_<;>intro a<;>try(cases a;done))
 .exact eV
 .rw[a,Bq rfl]at hs;simp only[AQ];dsimp only[Ty.den]at *;omega
 .exact eV
 .have d:n<64*b.length:=by exact eV
  rw[a,Bq rfl]at hs;refine⟨⟨n+1,by omega⟩,by simp only;omega,AD [(18,.nm 18)] rfl rfl ?_ ?_⟩
  .simp only[hs];exact eN
  simp only[hs];exact eN
 .exact eV
 .have d:n<64*b.length:=by exact eV
  rw[a,As (by simp),Uh]at hs;refine⟨⟨n+1,by omega⟩,by simp only;omega,AD [(18,.nm 18)] rfl rfl ?_ ?_⟩
  .simp only[hs];exact eN
  simp only[hs];exact eN
 have d:n=64*b.length:=by exact eV
 subst d;refine Fl [18] ?_;exact fI c [.tmp 2] (by unfold IU;exact eR)
def pU:AZ:={ ins:=[BN],pre:=λ(b,_)=>List.length b<=100000,out:=λ(b,_)=>[.p T3 ((IU b).length:Int)],lend:=true }
theorem A4q:Ad Tryz.prog 207 pU:=by
 refine fK [0,2] Tryz.func207 Tryz.ntmps207 (AF A8B AH) ?_;rintro w0 O0 ⟨b,u⟩ a-c;simp only[pU,AM];repeat'(first|exact trivial|apply eS rfl|refine rX a ?_ ?_)
 .exact c
 exact fI a [.tmp 2]
end
section
attribute [local go_sem] Ji A4i
abbrev AL:=ByteArray×List ByteArray×List (ByteArray×ByteArray)
abbrev d0:AL:=(ByteArray.empty,[],[])
def Cv (s:ByteArray):Nat->List AL->Int
 | _,[]=>-1
 | k,x :: l=>if Ac x.1 s=true then (k:Int) else Cv s (k+1) l
def BL (l:List AL) (s:ByteArray):Int:=Cv s 0 l
theorem TL (s:ByteArray) (l:List AL) {k:Nat} (h:k<l.length):Cv s k (l.drop k)=if Ac (l.getD k d0).1 s=true then (k:Int) else Cv s (k+1) (l.drop (k+1)):=by
 rw[On h];have e:l.getD k d0=l[k]:=by simp[AS,h]
 rw[e];rfl
def PQ:AZ:={ ins:=[FA,T9],pre:=λ_=>True,out:=λ(l,s,_)=>[.p T3 (BL l s)] }
attribute [local go_sem] PQ
theorem MU:Ad Tryz.prog 219 PQ:=by
 refine fK [0,1,4,5,9,18] Tryz.func219 Tryz.ntmps219 AH ?_;rintro w0 O0 ⟨l,s,u⟩ c ⟨⟨hl,-⟩,-⟩ -;simp only[AQ]at hl;simp only[PQ,AM];repeat'(first|exact trivial|apply eS rfl|refine rX c ?_ ?_)
 refine AK (ι:={k:Nat//k<=l.length/\Cv s k (l.drop k)=BL l s}) (λk=>⟨[(0,.p FA l),(1,.p T9 s),(5,.p (.int .i64) (k.1:Int))],[]⟩) (λk=>l.length-k.1) ⟨0,Is _,rfl⟩ (eW []) (λk=>?_)
 obtain⟨k,hk,hf⟩:=k;simp only;repeat'(first|exact trivial|apply eS rfl|apply AB|refine rX c ?_ ?_|refine rC ?_ ?_<;>intro b<;>try(cases b;done))
 .exact b
 .have a:k<l.length:=by exact eV
  rw[TL s l a,Bq b]at hf;exact fI c [.tmp 4] (by rw[<-hf];exact eR)
 .exact eV
 .have a:k<l.length:=by exact eV
  rw[TL s l a,As (by rw[b];simp)]at hf;exact⟨⟨k+1,by omega,hf⟩,by simp only;omega,eW []⟩
 have a:l.drop k=[]:=TO (by exact eV);rw[a]at hf;exact fI c [.tmp 4] (by rw[<-hf];first|exact eR|refine Uv ?_;rfl)
def MV:List AL->Int
 | []=>0
 | x :: l=>if 256<x.2.1.length\/256<x.2.2.length then 7 else MV l
def FC (l:List AL):Int:=if 256<l.length then 7 else MV l
theorem TM (l:List AL) {k:Nat} (h:k<l.length):MV (l.drop k)=if 256<(l.getD k d0).2.1.length\/256<(l.getD k d0).2.2.length then 7 else MV (l.drop (k+1)):=by
 rw[On h];have e:l.getD k d0=l[k]:=by simp[AS,h]
 rw[e];rfl
def dV:AZ:={ ins:=[FA],pre:=λ_=>True,out:=λ(l,_)=>[.p Fm (FC l)] }
attribute [local go_sem] dV
theorem A4r:Ad Tryz.prog 196 dV:=by
 refine fK [0,2,3,6,10,28] Tryz.func196 Tryz.ntmps196 AH ?_;rintro w0 O0 ⟨l,u⟩ b ⟨⟨hl,-⟩,-⟩ -;simp only[AQ]at hl;simp only[dV,AM];repeat'(first|exact trivial|apply eS rfl|refine rX b ?_ ?_|refine rC ?_ ?_<;>intro a<;>try(cases a;done))
 .have h1:FC l=7:=by unfold FC;rw[Bq (by exact eV)]
  exact fI b [.tmp 2] (by rw[h1];exact eR)
 have h1:FC l=MV l:=by unfold FC;rw[As (by exact eV)]
 refine AK (ι:={k:Nat//k<=l.length/\MV (l.drop k)=FC l}) (λk=>⟨[(0,.p FA l),(3,.p (.int .i64) (k.1:Int))],[]⟩) (λk=>l.length-k.1) ⟨0,Is _,h1.symm⟩ (eW []) (λk=>?_)
 obtain⟨k,hk,hf⟩:=k;simp only;repeat'(first|exact trivial|apply eS rfl|apply AB|refine rX b ?_ ?_|refine rC ?_ ?_<;>intro a<;>try(cases a;done))
 .exact⟨a,λ_=>a⟩
 .have c:k<l.length:=by exact eV
  rw[TM l c,Bq (by
   rcases a with h|h
   .exact .inl (Do.1 h)
   exact .inr (Do.1 h))]at hf
  exact fI b [.tmp 2] (by rw[<-hf];exact eR)
 .exact eV
 .have c:k<l.length:=by exact eV
  rw[TM l c,As (by
   rintro (h|h)
   .have:=US.1 a.1;exact absurd h (Nat.not_lt.2 this)
   have:=US.1 a.2;exact absurd h (Nat.not_lt.2 this))]at hf
  exact⟨⟨k+1,by omega,hf⟩,by simp only;omega,eW []⟩
 have c:l.drop k=[]:=TO (by exact eV);rw[c]at hf;exact fI b [.tmp 2] (by rw[<-hf];first|exact eR|refine Uv ?_;rfl)
theorem KH {α:Type} (l:List α) (d:α) (p:α->Bool) {k:Nat} (h:k<l.length):(l.take (k+1)).all p=((l.take k).all p&&p (l.getD k d)):=by
 rw[Av l d h,AF3];simp
def Jj (x:AL) (done:List ByteArray):Bool:=x.2.1.all λs=>Af done s
def dW:AZ:={ ins:=[A1w,GP],pre:=λ_=>True,out:=λ(x,l,_)=>[.p .bool (Jj x l)],lend:=true }
attribute [local go_sem] dW
theorem A4s:Ad Tryz.prog 220 dW:=by
 refine fK [0,1,2,4,5,10,20] Tryz.func220 Tryz.ntmps220 (AF HD AH) ?_;rintro w0 O0 ⟨⟨nm,sup,d⟩,l,u⟩ c ⟨⟨-,⟨e,-⟩,-⟩,-⟩ -;simp only[AQ]at e;simp only[dW,AM];repeat'(first|exact trivial|apply eS rfl|refine rX c ?_ ?_)
 refine AK (ι:={k:Nat//k<=sup.length/\(sup.take k).all (λs=>Af l s)=true}) (λk=>⟨[(1,.p GP l),(2,.bp 2 [] 0),(5,.p (.int .i64) (k.1:Int))],[(2,.box 158 true [.p T9 nm,.p GP sup,.p jS d])]⟩) (λk=>sup.length-k.1) ⟨0,by simp⟩ (eW [(2,.nm 2)]) (λk=>?_)
 obtain⟨k,hk,hf⟩:=k;simp only;repeat'(first|exact trivial|apply eS rfl|apply AB|refine rX c ?_ ?_|refine rC ?_ ?_<;>intro b<;>try(cases b;done))
 .exact b
 .have a:k<sup.length:=by exact eV
  have h1:Jj (nm,sup,d) l=false:=by
   unfold Jj;refine AAv.2 λh=>?_;have:=OR.1 h _ (AE sup ByteArray.empty a);rw[b]at this;cases this
  exact fI c [.tmp 4] (by rw[h1];exact eR)
 .have:=e;exact eV
 .have a:k<sup.length:=by exact eV
  refine⟨⟨k+1,by omega,?_⟩,by simp only;omega,AD [(2,.nm 2)] rfl rfl ?_ ?_⟩
  .rw[KH sup ByteArray.empty _ a,hf];exact b
  .exact eN
  exact eN
 have a:sup.take k=sup:=At (by exact eV);rw[a]at hf;have h1:Jj (nm,sup,d) l=true:=hf;exact fI c [.tmp 4] (by rw[h1];exact eR)
def PR (d:List AL):Nat->List AL->Int
 | _,[]=>0
 | k,x :: l=>if FB x.1 false=false then 1 else if BL d x.1<(k:Int) then 4 else PR d (k+1) l
def Dw (d:List AL):Int:=PR d 0 d
theorem MW (d l:List AL) {k:Nat} (h:k<l.length):PR d k (l.drop k)=if FB (l.getD k d0).1 false=false then 1 else if BL d (l.getD k d0).1<(k:Int) then 4 else PR d (k+1) (l.drop (k+1)):=by
 rw[On h];have e:l.getD k d0=l[k]:=by simp[AS,h]
 rw[e];rfl
def dX:AZ:={ ins:=[FA],pre:=λ_=>True,out:=λ(l,_)=>[.p Fm (Dw l)] }
attribute [local go_sem] dX
theorem A4t:Ad Tryz.prog 197 dX:=by
 refine fK [0,2,3,7,16,25] Tryz.func197 Tryz.ntmps197 (AF A8A (AF MU AH)) ?_;rintro w0 O0 ⟨l,u⟩ c ⟨⟨hl,-⟩,-⟩ -;simp only[AQ]at hl;simp only[dX,AM];repeat'(first|exact trivial|apply eS rfl|refine rX c ?_ ?_)
 refine AK (ι:={k:Nat//k<=l.length/\PR l k (l.drop k)=Dw l}) (λk=>⟨[(0,.p FA l),(3,.p (.int .i64) (k.1:Int))],[]⟩) (λk=>l.length-k.1) ⟨0,Is _,rfl⟩ (eW []) (λk=>?_)
 obtain⟨k,hk,hf⟩:=k;simp only;repeat'(first|exact trivial|apply eS rfl|apply AB|refine rX c ?_ ?_|refine rC ?_ ?_<;>intro b<;>try(cases b;done))
 .exact b
 .have a:k<l.length:=by exact eV
  rw[MW l l a,Bq b]at hf;exact fI c [.tmp 2] (by rw[<-hf];exact eR)
 .assumption
 .rename_i d;have a:k<l.length:=by exact eV
  rw[MW l l a,As (by rw[d];simp),Bq b]at hf;exact fI c [.tmp 2] (by rw[<-hf];exact eR)
 .exact eV
 .rename_i d;have a:k<l.length:=by exact eV
  rw[MW l l a,As (by rw[d];simp),As (AAm.2 b)]at hf;exact⟨⟨k+1,by omega,hf⟩,by simp only;omega,eW []⟩
 have a:l.drop k=[]:=TO (by exact eV);rw[a]at hf;exact fI c [.tmp 2] (by rw[<-hf];first|exact eR|refine Uv ?_;rfl)
def UE (d:List AL) (l:List ByteArray):Nat->List ByteArray->Int
 | _,[]=>0
 | k,x :: r=>if BL d x<0 then 5 else if Af (l.take k) x=true then 4 else UE d l (k+1) r
def LH (d:List AL):List AL->Int
 | []=>0
 | x :: l=>if UE d x.2.1 0 x.2.1≠0 then UE d x.2.1 0 x.2.1 else LH d l
def LI (d:List AL):Int:=LH d d
theorem R8 (d:List AL) (l:List ByteArray) {k:Nat} (h:k<l.length):UE d l k (l.drop k)=if BL d (l.getD k ByteArray.empty)<0 then 5 else if Af (l.take k) (l.getD k ByteArray.empty)=true then 4 else UE d l (k+1) (l.drop (k+1)):=by
 rw[On h];have e:l.getD k ByteArray.empty=l[k]:=by simp[AS,h]
 rw[e];rfl
theorem dY (d l:List AL) {k:Nat} (h:k<l.length):LH d (l.drop k)=if UE d (l.getD k d0).2.1 0 (l.getD k d0).2.1≠0 then UE d (l.getD k d0).2.1 0 (l.getD k d0).2.1 else LH d (l.drop (k+1)):=by
 rw[On h];have e:l.getD k d0=l[k]:=by simp[AS,h]
 rw[e];rfl
def Uw:AZ:={ ins:=[FA],pre:=λ_=>True,out:=λ(l,_)=>[.p Fm (LI l)] }
attribute [local go_sem] Uw
theorem A1B:Ad Tryz.prog 198 Uw:=by
 refine fK [0,2,3,4,5,9,20,29,37] Tryz.func198 Tryz.ntmps198 (AF HD (AF MU AH)) ?_;rintro w0 O0 ⟨l,u⟩ d ⟨⟨hl,g⟩,-⟩ -;simp only[AQ]at hl;simp only[Uw,AM];repeat'(first|exact trivial|apply eS rfl|refine rX d ?_ ?_)
 refine AK (ι:={i:Nat//i<=l.length/\LH l (l.drop i)=LI l}) (λi=>⟨[(0,.p FA l),(3,.p (.int .i64) (i.1:Int))],[]⟩) (λi=>l.length-i.1) ⟨0,Is _,rfl⟩ (eW []) (λi=>?_)
 obtain⟨i,hi,hf⟩:=i;simp only;repeat'(first|exact trivial|apply eS rfl|refine rX d ?_ ?_|refine rC ?_ ?_<;>intro b<;>try(cases b;done))
 .exact b
 .have f:i<l.length:=by exact eV
  have h:=g _ (AE l d0 f);have j:(l.getD i d0).2.1.length<=AQ:=h.2.1.1;simp only[AQ]at j;rw[dY l l f]at hf;generalize (l.getD i d0).2.1=sup at *;refine AK (ι:={k:Nat//k<=sup.length/\UE l sup k (sup.drop k)=UE l sup 0 sup}) (λk=>⟨[(0,.p FA l),(3,.p (.int .i64) (i:Int)),(4,.p GP sup),(5,.p (.int .i64) (k.1:Int))],[]⟩) (λk=>sup.length-k.1) ⟨0,Is _,rfl⟩ (eW []) (λk=>?_)
  obtain⟨k,hk,c⟩:=k;simp only;repeat'(first|exact trivial|apply eS rfl|apply AB|refine rX d ?_ ?_|refine rC ?_ ?_<;>intro b<;>try(cases b;done))
  .exact b
  .have a:k<sup.length:=by exact eV
   rw[R8 l sup a,Bq b]at c;rw[<-c,Bq (by decide)]at hf;exact fI d [.tmp 2] (by rw[<-hf];exact eR)
  .exact eV
  .rename_i e;have a:k<sup.length:=by exact eV
   rw[R8 l sup a,As (AAm.2 e),Bq b]at c;rw[<-c,Bq (by decide)]at hf;exact fI d [.tmp 2] (by rw[<-hf];exact eR)
  .exact eV
  .rename_i e;have a:k<sup.length:=by exact eV
   rw[R8 l sup a,As (AAm.2 e),As (by rw[b];simp)]at c;exact⟨⟨k+1,by omega,c⟩,by simp only;omega,eW []⟩
  .exact eV
  have a:sup.drop k=[]:=TO (by exact eV);rw[a]at c;rw[<-c,As (by simp[UE])]at hf;exact⟨⟨i+1,by omega,hf⟩,by simp only;omega,eW []⟩
 have a:l.drop i=[]:=TO (by exact eV);rw[a]at hf;exact fI d [.tmp 2] (by rw[<-hf];first|exact eR|refine Uv ?_;rfl)
end
section
attribute [local go_sem] PQ dW Ji dT
theorem Ey {α β:Type} (g:β->α->β) (l:List α) (d:α) (t:β) {i:Nat} (hi:i<l.length):(l.take (i+1)).foldl g t=g ((l.take i).foldl g t) (l.getD i d):=by
 rw[Av l d hi,AAp];rfl
theorem MX (l:List ByteArray) (s:ByteArray):(Dv l s).length<=l.length+1:=by
 unfold Dv;split
 .omega
 have:=AAe (λx=>Cj x s) l;have a:Yz l s<=l.length:=this;simp only[BY,OS,YY,IS];omega
def AX (l:List AL):List ByteArray:=l.foldl (λo x=>Dv o x.1) []
theorem FQ (l:List AL) (k:Nat):(AX (l.take k)).length<=k:=by
 have key:∀(l:List AL) (o:List ByteArray),(l.foldl (λo x=>Dv o x.1) o).length<=o.length+l.length:=by
  intro l;induction l with
  | nil=>intro o;simp
  | cons x l b =>
   intro o;have h1:=b (Dv o x.1);have a:=MX o x.1;simp only[UN,No];omega
 have h1:=key (l.take k) [];have a:=Yn k l;unfold AX;simp only[Yo]at h1;omega
def Qr:AZ:={ ins:=[FA],pre:=λ(l,_)=>List.length l<=100000,out:=λ(l,_)=>[.p GP (AX l)] }
attribute [local go_sem] Qr
theorem Z4:Ad Tryz.prog 161 Qr:=by
 refine fK [0,2,3,4,8] Tryz.func161 Tryz.ntmps161 (AF R5 AH) ?_;rintro w0 O0 ⟨l,u⟩ a-hl;have hl:l.length<=100000:=hl;simp only[Qr,AM];repeat'(first|exact trivial|apply eS rfl|refine rX a ?_ ?_)
 refine AK (ι:={k:Nat//k<=l.length}) (λk=>⟨[(0,.p FA l),(3,.p GP (AX (l.take k.1))),(4,.p (.int .i64) (k.1:Int))],[]⟩) (λk=>l.length-k.1) ⟨0,Is _⟩ (AD [] rfl rfl ?_ ?_) (λk=>?_)
 .exact eN
 .refine eM ?_;rfl
 obtain⟨k,hk⟩:=k;have hn:=FQ l k;have hs:=λh:k<l.length=>Ey (λ(o:List ByteArray) (x:AL)=>Dv o x.1) l d0 [] h;simp only;repeat'(first|exact trivial|apply eS rfl|apply AB|refine rX a ?_ ?_|refine rC ?_ ?_<;>intro c<;>try(cases c;done))
 .exact⟨c,by omega⟩
 .exact eV
 .have b:k<l.length:=by exact eV
  have e:=hs b;refine⟨⟨k+1,by omega⟩,by simp only;omega,AD [] rfl rfl ?_ ?_⟩
  .exact eN
  simp only;have e:AX (l.take (k+1))=Dv (AX (l.take k)) (l.getD k d0).1:=e;rw[e];exact eN
 have b:l.take k=l:=At (by exact eV);rw[b];exact fI a [.tmp 2]
def JO (out:List ByteArray) (s:Bool×ByteArray) (x:AL):Bool×ByteArray :=
 if (Af out x.1||!Jj x out)=true then s else (true,if (!s.1||Cj x.1 s.2)=true then x.1 else s.2)
def IV (d:List AL) (out:List ByteArray):Bool×ByteArray:=d.foldl (JO out) (false,ByteArray.empty)
def JP (d:List AL):Nat->List ByteArray->List ByteArray
 | 0,out=>out
 | n+1,out=>if (IV d out).1=true then JP d n (out++[(IV d out).2]) else out
def Bl (d:List AL):List ByteArray:=JP d d.length []
def IW (d:List AL) (out:List ByteArray):Nat:=d.countP λx=>!Af out x.1
theorem Y1 (s:ByteArray):Ac s s=true:=by unfold Ac;simp
theorem PT (out:List ByteArray) (s x:ByteArray):Af (out++[s]) x=(Af out x||Ac s x):=by
 unfold Af;simp[AFi]
theorem A1C (d:List AL) (out:List ByteArray) (h:(IV d out).1=true):∃x∈d,x.1=(IV d out).2/\Af out x.1=false:=by
 have key:∀(l:List AL) (s:Bool×ByteArray),(∀x∈l,x∈d)->(s.1=true->∃x∈d,x.1=s.2/\Af out x.1=false)->(l.foldl (JO out) s).1=true ->
   ∃x∈d,x.1=(l.foldl (JO out) s).2/\Af out x.1=false:=by
  intro l;induction l with
  | nil=>intro s _ hs h;exact hs h
  | cons y l e =>
   intro s hl hs h;rw[UN]at h ⊢;refine e _ (λx hx=>hl x (by simp[hx])) (λhp=>?_) h;unfold JO at hp ⊢;split
   .rename_i a;rw[Bq a]at hp;exact hs hp
   rename_i a;simp only;have c:Af out y.1=false:=by
    cases hh:Af out y.1 with
    | false=>rfl
    | true=>rw[hh]at a;simp at a
   split
   .exact⟨y,hl y (by simp),rfl,c⟩
   rename_i b;have:s.1=true:=by
    cases hh:s.1 with
    | true=>rfl
    | false=>rw[hh]at b;simp at b
   exact hs this
 exact key d _ (λ_ h=>h) (λh=>by cases h) h
theorem j5 {d:List AL} {out:List ByteArray} (h:(IV d out).1=true):IW d (out++[(IV d out).2])<IW d out:=by
 obtain⟨x,hx,h1,b⟩:=A1C d out h;generalize (IV d out).2=s at *;unfold IW;have key:∀l:List AL,(l.countP λy=>!Af (out++[s]) y.1)<=l.countP λy=>!Af out y.1:=by
  intro l;refine List.countP_mono_left λy _ a=>?_;rw[PT]at a;cases hh:Af out y.1 with
  | false=>rfl
  | true=>rw[hh]at a;simp at a
 obtain⟨c,e,rfl⟩:=List.append_of_mem hx;rw[AG7,AG7,ABQ,ABQ];have f:=key c;have g:=key e;have e1:Af (out++[s]) x.1=true:=by rw[PT,h1,Y1,Bool.or_true]
 rw[e1,b];simp only[Bool.not_true,Bool.not_false,ZU];simp only[Yg,iN];omega
def dZ:AZ:={ ins:=[FA],pre:=λ(l,_)=>List.length l<=100000,out:=λ(l,_)=>[.p GP (Bl l)] }
theorem A1D:Ad Tryz.prog 199 dZ:=by
 refine fK [0,2,3,4,5,6,7,11,29,40,46] Tryz.func199 Tryz.ntmps199 (AF HD (AF A4s AH)) ?_;rintro w0 O0 ⟨d,u⟩ j-r;have r:d.length<=100000:=r;simp only[dZ,AM];repeat'(first|exact trivial|apply eS rfl|refine rX j ?_ ?_)
 refine AK (ι:={x:Nat×List ByteArray×Bool//x.1+x.2.1.length<=d.length/\(x.2.2=true->IW d x.2.1<=x.1/\JP d x.1 x.2.1=Bl d)/\(x.2.2=false->x.2.1=Bl d)}) (λx=>⟨[(0,.p FA d),(3,.sr 50 T9 0 x.1.2.1.length),(4,.p .bool x.1.2.2)],[(50,.arr 9 T9 x.1.2.1)]⟩) (λx=>(if x.1.2.2=true then x.1.1+1 else 0)) ⟨(d.length,[],true),by simp,λ_=>⟨List.countP_le_length,rfl⟩,λh=>by cases h⟩ (eW [(50,.nil)]) (λx=>?_)
 obtain⟨⟨n,out,C⟩,s,t,v⟩:=x;simp only at s t v;simp only;repeat'(first|exact trivial|apply eS rfl|refine rX j ?_ ?_|refine rC ?_ ?_<;>intro a<;>try(cases a;done))
 .subst a;obtain⟨hu,hp⟩:=t rfl;have B:({ data:=#[] }:ByteArray).size<=AQ:=by decide
  rw[Bq B];refine AK (ι:={y:Nat×Bool×ByteArray//y.1<=d.length/\(d.take y.1).foldl (JO out) (false,ByteArray.empty)=y.2}) (λy=>⟨[(0,.p FA d),(3,.sr 50 T9 0 out.length),(4,.p .bool y.1.2.1),(5,.p T9 y.1.2.2),(6,.p (.int .i64) (y.1.1:Int))],[(50,.arr 9 T9 out)]⟩) (λy=>d.length-y.1.1) ⟨(0,false,ByteArray.empty),by simp,rfl⟩ (AD [(50,.nm 50)] rfl rfl ?_ ?_) (λy=>?_)
  .exact eN
  .refine eM ?_;rfl
  obtain⟨⟨k,w,b⟩,hk,c⟩:=y;simp only at hk c;have q:∀h:k<d.length,(d.take (k+1)).foldl (JO out) (false,ByteArray.empty)=JO out (w,b) (d.getD k d0):=λh=>by
   rw[Ey (JO out) d d0 _ h,c]
  simp only;repeat'(first|exact trivial|apply eS rfl|apply AB|refine rX j ?_ ?_|refine rC ?_ ?_<;>intro a<;>try(cases a;done))
  .exact⟨a,λ_=>a⟩
  .exact eV
  .have g:k<d.length:=by exact eV
   refine⟨⟨(k+1,w,b),by simp only;omega,?_⟩,by simp only;omega,AD [(50,.nm 50)] rfl rfl ?_ ?_⟩
   .simp only;rw[q g];unfold JO;rw[Bq];rw[Ub,UL];exact a
   .exact eN
   exact eN
  .exact λ_=>by assumption
  .assumption
  .exact eV
  .rename_i f;have g:k<d.length:=by exact eV
   refine⟨⟨(k+1,true,(d.getD k d0).1),by simp only;omega,?_⟩,by simp only;omega,AD [(50,.nm 50)] rfl rfl ?_ ?_⟩
   .simp only;rw[q g];unfold JO;rw[As (by rw[f.1,f.2];simp),Bq (by rw[Ub,UL];exact a)]
   .exact eN
   exact eN
  .exact eV
  .rename_i f;have g:k<d.length:=by exact eV
   refine⟨⟨(k+1,true,b),by simp only;omega,?_⟩,by simp only;omega,AD [(50,.nm 50)] rfl rfl ?_ ?_⟩
   .simp only;rw[q g];unfold JO;rw[As (by rw[f.1,f.2];simp),As (by rw[Ub,UL];rintro (h|h)<;>simp_all)]
   .exact eN
   exact eN
  .simp only[AQ];dsimp only[Ty.den]at *;omega
  .subst a;have l:d.take k=d:=At (by exact eV);rw[l]at c;have i:IV d out=(true,b):=c;have m:=j5 (d:=d) (out:=out) (by rw[i]);rw[i]at m;obtain⟨e,rfl⟩:∃e,n=e+1:=⟨n-1,by omega⟩;have o:JP d e (out++[b])=Bl d:=by
    rw[<-hp];show _=if (IV d out).1=true then JP d e (out++[(IV d out).2]) else out
    rw[i,Bq rfl]
   have m:IW d (out++[b])<IW d out:=m;have A:IW d (out++[b])<=e:=by omega
   exact⟨⟨(e,out++[b],true),by simp only[BY,IS];omega,λ_=>⟨A,o⟩,λh=>by cases h⟩,by simp,eW [(50,.nm 50)]⟩
  subst a;have l:d.take k=d:=At (by exact eV);rw[l]at c;have i:IV d out=(false,b):=c;have o:out=Bl d:=by
   rw[<-hp];cases n with
   | zero=>rfl
   | succ n =>
    show _=if (IV d out).1=true then JP d n (out++[(IV d out).2]) else out
    rw[i,As (by simp)]
  exact⟨⟨(n,out,false),s,(λh=>by cases h),λ_=>o⟩,by simp,eW [(50,.nm 50)]⟩
 subst a;have z:=v rfl;rw[z];refine Fl [50] ?_;exact fI j [.tmp 2]
end
section
attribute [local go_sem] dV dX Uw dZ
def IX (d:List AL):Nat:=d.countP λx=>x.2.1.length==0
theorem j6 (d:List AL) {k:Nat} (h:k<d.length):IX (d.take (k+1))=IX (d.take k)+if ((d.getD k d0).2.1.length==0)=true then 1 else 0:=by
 unfold IX;rw[Av d d0 h,AG7,ABQ,List.countP_nil];omega
theorem A1E (d:List AL):IX d<=d.length:=List.countP_le_length
def BT (d:List AL):Int :=
 if FC d≠0 then FC d else if Dw d≠0 then Dw d else if LI d≠0 then LI d else if IX d≠1 then 1 else if (Bl d).length<d.length then 6 else 0
theorem TN {d:List AL} (h:FC d=0):d.length<=256:=by
 unfold FC at h;split at h
 .cases h
 omega
def Ux:AZ:={ ins:=[FA],pre:=λ_=>True,out:=λ(l,_)=>[.p Fm (BT l)] }
attribute [local go_sem] Ux
theorem A1F:Ad Tryz.prog 160 Ux:=by
 refine fK [0,2,3,4,5,6,7,11,16,21,26,35,39,45] Tryz.func160 Tryz.ntmps160 (AF A4r (AF A4t (AF A1B (AF A1D AH)))) ?_;rintro w0 O0 ⟨d,u⟩ c - -;simp only[Ux,AM];repeat'(first|exact trivial|apply eS rfl|refine rX c ?_ ?_|refine rC ?_ ?_<;>intro a<;>try(cases a;done))
 .have h1:BT d=FC d:=by unfold BT;rw[Bq a]
  exact fI c [.tmp 2] (by rw[h1];exact eR)
 .rename_i hs;have hs:FC d=0:=by simpa using hs
  have h1:BT d=Dw d:=by unfold BT;rw[As (by rw[hs];simp),Bq a]
  exact fI c [.tmp 2] (by rw[h1];exact eR)
 .rename_i hs hn;have hs:FC d=0:=by simpa using hs
  have hn:Dw d=0:=by simpa using hn
  have h1:BT d=LI d:=by unfold BT;rw[As (by rw[hs];simp),As (by rw[hn];simp),Bq a]
  exact fI c [.tmp 2] (by rw[h1];exact eR)
 rename_i hs hn;have hs:FC d=0:=by simpa using hs
 have hn:Dw d=0:=by simpa using hn
 have hu:LI d=0:=by simpa using a
 have i:=TN hs;have h1:BT d=if IX d≠1 then 1 else if (Bl d).length<d.length then 6 else 0:=by
  unfold BT;rw[As (by rw[hs];simp),As (by rw[hn];simp),As (by rw[hu];simp)]
 refine AK (ι:={k:Nat//k<=d.length}) (λk=>⟨[(0,.p FA d),(6,.p (.int .i64) (IX (d.take k.1):Int)),(7,.p (.int .i64) (k.1:Int))],[]⟩) (λk=>d.length-k.1) ⟨0,Is _⟩ (AD [] rfl rfl ?_ ?_) (λk=>?_)
 .exact eN
 .refine eM ?_;rfl
 obtain⟨k,hk⟩:=k;have j:=A1E (d.take k);have l:=Yn k d;have g:=λh:k<d.length=>j6 d h;simp only;repeat'(first|exact trivial|apply eS rfl|apply AB|refine rX c ?_ ?_|refine rC ?_ ?_<;>intro a<;>try(cases a;done))
 .exact a
 .exact eV
 .exact eV
 .have b:k<d.length:=by exact eV
  have e:=g b;rw[Bq (by rw[YV];exact Int.ofNat_eq_zero.1 a)]at e;refine⟨⟨k+1,by omega⟩,by simp only;omega,AD [] rfl rfl ?_ ?_⟩
  .exact eN
  simp only[e];exact eN
 .exact eV
 .have b:k<d.length:=by exact eV
  have e:=g b;rw[As (by rw[YV];exact λh=>a (Int.ofNat_eq_zero.2 h))]at e;refine⟨⟨k+1,by omega⟩,by simp only;omega,AD [] rfl rfl ?_ ?_⟩
  .exact eN
  simp only[e];exact eN
 .have b:d.take k=d:=At (by exact eV);rw[b]at a;rw[Bq (λh=>a (by rw[h];rfl))]at h1;exact fI c [.tmp 2] (by rw[h1];exact eR)
 .show d.length<=100000;omega
 .rename_i f;have b:d.take k=d:=At (by exact eV);rw[b]at f;have f:(IX d:Int)=1:=by simpa using f
  rw[As (by omega),Bq (Do.1 a)]at h1;exact fI c [.tmp 2] (by rw[h1];exact eR)
 rename_i f;have b:d.take k=d:=At (by exact eV);rw[b]at f;have f:(IX d:Int)=1:=by simpa using f
 rw[As (by omega),As (λh=>absurd (US.1 a) (Nat.not_le.2 h))]at h1;exact fI c [.tmp 2] (by rw[h1];exact eR)
end
section
attribute [local go_sem] PQ Ji dT
def MY (o:List ByteArray) (s:ByteArray):List ByteArray:=if Af o s=true then o else o++[s]
def MZ (d:List AL) (s:ByteArray):List ByteArray:=(d.getD (BL d s).toNat d0).2.1
def LJ (d:List AL):Nat->Nat->List ByteArray->List ByteArray
 | 0,_,o=>o
 | n+1,i,o=>if i<o.length then LJ d n (i+1) ((MZ d (o.getD i ByteArray.empty)).foldl MY o) else o
def Ma (l:List ByteArray):List ByteArray:=l.foldl Dv []
theorem Z5 (l:List ByteArray):(Ma l).length<=l.length:=by
 have key:∀(l o:List ByteArray),(l.foldl Dv o).length<=o.length+l.length:=by
  intro l;induction l with
  | nil=>intro o;simp
  | cons x l a =>
   intro o;have h1:=a (Dv o x);have b:=MX o x;simp only[UN,No];omega
 have:=key l [];simpa[Ma] using this
def PU (d:List AL) (s:ByteArray):List ByteArray:=if BL d s<0 then [] else Ma (LJ d d.length 0 [s])
def WV (d:List AL):Prop:=∀x∈d,∀s∈x.2.1,0<=BL d s
theorem Z6 (s:ByteArray):∀(l:List AL) (k:Nat),Cv s k l=-1\/((k:Int)<=Cv s k l/\Cv s k l<(k:Int)+l.length/\Ac (l.getD ((Cv s k l).toNat-k) d0).1 s=true)
 | [],_=>.inl rfl
 | x :: l,k=>by
  simp only[Cv];split
  .rename_i h;right;refine⟨by omega,by simp only[No];omega,?_⟩;have:((k:Int).toNat-k)=0:=by omega
   rw[this];exact h
  rcases Z6 s l (k+1) with h|⟨h1,b,a⟩
  .exact .inl h
  right;refine⟨by omega,by simp only[No];omega,?_⟩;have:((Cv s (k+1) l).toNat-k)=((Cv s (k+1) l).toNat-(k+1))+1:=by omega
  rw[this];exact a
theorem Dl (d:List AL) (s:ByteArray):BL d s<0\/(0<=BL d s/\BL d s<(d.length:Int)/\Ac (d.getD (BL d s).toNat d0).1 s=true):=by
 rcases Z6 s d 0 with h|⟨h1,a,b⟩
 .left;show Cv s 0 d<0;omega
 have a:BL d s<((0:Nat):Int)+d.length:=a;exact .inr ⟨h1,by omega,b⟩
theorem KI {a b:ByteArray}:Ac a b=true↔a.toList=b.toList:=by unfold Ac;simp
theorem FT {a b:ByteArray} (h:Ac a b=true):Ac b a=true:=KI.2 (KI.1 h).symm
theorem DN {a b c:ByteArray} (h:Ac a b=true) (g:Ac b c=true):Ac a c=true:=KI.2 ((KI.1 h).trans (KI.1 g))
structure gX (d:List AL) (o:List ByteArray):Prop where
 decl:∀s∈o,0<=BL d s
 nd:o.Pairwise λa b=>Ac a b=false
theorem LK (d:List AL):∀ {o:List ByteArray},gX d o->(o.map λs=>(BL d s).toNat).Nodup
 | [],_=>by simp
 | s :: o,h=>by
  rw[UY,YT];have b:=Uf.1 h.nd;refine⟨λf=>?_,LK d ⟨λx hx=>h.decl x (by simp[hx]),b.2⟩⟩;obtain⟨x,hx,e⟩:=IF.1 f;have h1:=h.decl s (by simp);have i:=h.decl x (by simp[hx]);rcases Dl d s with g|⟨_,_,c⟩
  .omega
  rcases Dl d x with g|⟨_,_,a⟩
  .omega
  rw[e]at a;have:=b.1 x hx;rw[DN (FT c) a]at this;cases this
theorem gX.len {d:List AL} {o:List ByteArray} (h:gX d o):o.length<=d.length:=by
 have:=EJ d.length (o.map λs=>(BL d s).toNat) (LK d h) (λj a=>by
  obtain⟨s,hs,rfl⟩:=IF.1 a;have h1:=h.decl s hs;rcases Dl d s with g|⟨_,g,_⟩<;>omega)
 simpa using this
theorem Qs {o:List ByteArray} {s:ByteArray} (h:Af o s=false):∀x∈o,Ac x s=false:=λx hx=>by
 cases hh:Ac x s with
 | false=>rfl
 | true=>exact absurd h (by rw[show Af o s=true from Ua.2 ⟨x,hx,hh⟩];simp)
theorem z8 {d:List AL} {o:List ByteArray} (h:gX d o) {s:ByteArray} (hs:0<=BL d s):gX d (MY o s):=by
 unfold MY;split
 .exact h
 rename_i c;have c:Af o s=false:=by simpa using c
 refine⟨λx hx=>?_,?_⟩
 .rcases IN.1 hx with hx|hx
  .exact h.decl x hx
  have:x=s:=by simpa using hx
  rw[this];exact hs
 rw[oN];refine⟨h.nd,by simp,λa ha b e=>?_⟩;have:b=s:=by simpa using e
 rw[this];exact Qs c a ha
theorem j7 {d:List AL}:∀ {l o:List ByteArray},(∀s∈l,0<=BL d s)->gX d o->gX d (l.foldl MY o)/\o.length<=(l.foldl MY o).length
 | [],o,_,h=>⟨h,NO _⟩
 | s :: l,o,hl,h=>by
  obtain⟨a,b⟩:=j7 (l:=l) (λx hx=>hl x (by simp[hx])) (z8 h (hl s (by simp)));refine⟨a,UR ?_ b⟩;unfold MY;split<;>simp
theorem j8 {d:List AL} (a:WV d) (s:ByteArray):∀x∈MZ d s,0<=BL d x:=by
 intro x hx;unfold MZ at hx;by_cases h:(BL d s).toNat<d.length
 .exact a _ (AE d d0 h) x hx
 rw[AS,UV (by omega)]at hx;cases hx
def pV:AZ:={ ins:=[FA,T9],pre:=λ(d,_,_)=>WV d/\List.length d<=256,out:=λ(d,s,_)=>[.p GP (PU d s)] }
theorem A4u:Ad Tryz.prog 222 pV:=by
 refine fK [0,1,4,5,6,7,8,9,10,14,20,36,45,56] Tryz.func222 Tryz.ntmps222 (AF MU (AF HD (AF R5 AH))) ?_;rintro w0 O0 ⟨d,s,u⟩ b ⟨⟨O,E⟩,-⟩ ⟨M,w⟩;have w:d.length<=256:=w;simp only[pV,AM];repeat'(first|exact trivial|apply eS rfl|refine rX b ?_ ?_|refine rC ?_ ?_<;>intro a<;>try(cases a;done))
 .have h1:PU d s=[]:=by unfold PU;rw[Bq a]
  exact fI b [.tmp 4] (by rw[h1];exact eR)
 have h1:PU d s=Ma (LJ d d.length 0 [s]):=by unfold PU;rw[As (AAm.2 a)]
 have D:gX d [s]:=⟨λx hx=>by
  have:x=s:=by simpa using hx
  rw[this];exact a,by simp⟩
 refine AK (ι:={x:Nat×List ByteArray//x.1<=x.2.length/\gX d x.2/\LJ d (d.length-x.1) x.1 x.2=LJ d d.length 0 [s]}) (λx=>⟨[(0,.p FA d),(1,.p T9 s),(5,.sr 16 T9 0 x.1.2.length),(6,.p (.int .i64) (x.1.1:Int))],[(16,.arr 9 T9 x.1.2)]⟩) (λx=>d.length-x.1.1) ⟨(0,[s]),by simp,D,rfl⟩ (eW [(16,.nm 16)]) (λx=>?_)
 obtain⟨⟨i,o⟩,hi,c,r⟩:=x;simp only at hi c r;have S:=c.len;simp only;repeat'(first|exact trivial|apply eS rfl|refine rX b ?_ ?_|refine rC ?_ ?_<;>intro a<;>try(cases a;done))
 .have q:i<o.length:=by exact eV
  have y:=c.decl _ (AE o ByteArray.empty q);refine⟨a,y,?_⟩;rcases Dl d (o.getD i ByteArray.empty) with g|⟨_,g,_⟩
  .omega
  exact g
 .have q:i<o.length:=by exact eV
  have y:=c.decl _ (AE o ByteArray.empty q);have I:=j8 M (o.getD i ByteArray.empty);have A:LJ d (d.length-(i+1)) (i+1) ((MZ d (o.getD i ByteArray.empty)).foldl MY o)=LJ d d.length 0 [s]:=by
   rw[<-r];obtain⟨m,z⟩:∃m,d.length-i=m+1:=⟨d.length-i-1,by omega⟩;have F:d.length-(i+1)=m:=by omega
   rw[z,F];show _=if i<o.length then LJ d m (i+1) ((MZ d (o.getD i ByteArray.empty)).foldl MY o) else o
   rw[Bq q]
  have K:(MZ d (o.getD i ByteArray.empty)).length<=AQ:=by
   rcases Dl d (o.getD i ByteArray.empty) with g|⟨_,g,_⟩
   .omega
   exact(E _ (AE d d0 (k:=(BL d (o.getD i ByteArray.empty)).toNat) (by omega))).2.1.1
  have L:(List.getD d (BL d (o.getD i ByteArray.empty)).toNat (ByteArray.empty,[],[])).2.1=MZ d (o.getD i ByteArray.empty):=rfl;rw[L];generalize MZ d (o.getD i ByteArray.empty)=sup at *;simp only[AQ]at K;refine AK (ι:={k:Nat//k<=sup.length}) (λk=>⟨[(0,.p FA d),(1,.p T9 s),(5,.sr 16 T9 0 ((sup.take k.1).foldl MY o).length),(6,.p (.int .i64) (i:Int)),(7,.p GP sup),(8,.p (.int .i64) (k.1:Int))],[(16,.arr 9 T9 ((sup.take k.1).foldl MY o))]⟩) (λk=>sup.length-k.1) ⟨0,Is _⟩ (AD [(16,.nm 16)] rfl rfl ?_ ?_) (λk=>?_)
  .refine eM ?_;rfl
  .refine eM ?_;rfl
  obtain⟨k,hk⟩:=k;have v:=j7 (l:=sup.take k) (o:=o) (λx hx=>I x (Yb hx)) c;have Q:=v.1.len;have C:=λh:k<sup.length=>Ey MY sup ByteArray.empty o h;simp only;generalize B:(sup.take k).foldl MY o=n at *;repeat'(first|exact trivial|apply eS rfl|apply AB|refine rX b ?_ ?_|refine rC ?_ ?_<;>intro a<;>try(cases a;done))
  .exact a
  .refine⟨by exact eV,?_⟩;simp only[AQ];dsimp only[Ty.den]at *;omega
  .exact eV
  .have f:k<sup.length:=by exact eV
   have e:=C f;have e2:MY n (sup.getD k ByteArray.empty)=n++[sup.getD k ByteArray.empty]:=by unfold MY;rw[As (by rw[a];simp)]
   rw[e2]at e;refine⟨⟨k+1,by omega⟩,by simp only;omega,AD [(16,.nm 16)] rfl rfl ?_ ?_⟩
   .simp only[e];exact eN
   simp only[e];exact eN
  .exact eV
  .have f:k<sup.length:=by exact eV
   have e:=C f;have e2:MY n (sup.getD k ByteArray.empty)=n:=by unfold MY;rw[Bq a]
   rw[e2]at e;refine⟨⟨k+1,by omega⟩,by simp only;omega,AD [(16,.nm 16)] rfl rfl ?_ ?_⟩
   .simp only[e];exact eN
   simp only[e];exact eN
  .exact eV
  have f:sup.take k=sup:=At (by exact eV);rw[f]at B;rw[B]at A;have H:=v.1;have R:=v.2;exact⟨⟨(i+1,n),by simp only;omega,H,A⟩,by simp only;omega,eW [(16,.nm 16)]⟩
 have G:o=LJ d d.length 0 [s]:=by
  rw[<-r];cases z:d.length-i with
  | zero=>rfl
  | succ m =>
   show _=if i<o.length then _ else o
   rw[As (by exact eV)]
 rw[<-G]at h1;refine AK (ι:={j:Nat//j<=o.length}) (λj=>⟨[(0,.p FA d),(5,.sr 16 T9 0 o.length),(9,.p GP ((o.take j.1).foldl Dv [])),(10,.p (.int .i64) (j.1:Int))],[(16,.arr 9 T9 o)]⟩) (λj=>o.length-j.1) ⟨0,Is _⟩ (AD [(16,.nm 16)] rfl rfl ?_ ?_) (λj=>?_)
 .exact eN
 .refine eM ?_;rfl
 obtain⟨j,P⟩:=j;have J:=λh:j<o.length=>Ey Dv o ByteArray.empty [] h;simp only;repeat'(first|exact trivial|apply eS rfl|apply AB|refine rX b ?_ ?_|refine rC ?_ ?_<;>intro a<;>try(cases a;done))
 .refine⟨a,?_⟩;have:=Z5 (o.take j);have N:=Yn j o;unfold Ma at this;dsimp only[Ty.den]at *;omega
 .exact eV
 .have t:j<o.length:=by exact eV
  have e:=J t;refine⟨⟨j+1,by omega⟩,by simp only;omega,AD [(16,.nm 16)] rfl rfl ?_ ?_⟩
  .exact eN
  simp only[e];exact eN
 have t:o.take j=o:=At (by exact eV);rw[t];exact fI b [.tmp 4] (by rw[h1];unfold Ma;exact eR)
end
section
attribute [local go_sem] PQ Ji dT
def Fs (s:ByteArray) (o:List ByteArray) (x:AL):List ByteArray:=if (Af x.2.1 s&&!Af o x.1)=true then o++[x.1] else o
def Dx (d:List AL):Nat->Nat->List ByteArray->List ByteArray
 | 0,_,o=>o
 | n+1,i,o=>if i<o.length then Dx d n (i+1) (d.foldl (Fs (o.getD i ByteArray.empty)) o) else o
def Dy (d:List AL) (s:ByteArray):List ByteArray:=if BL d s<0 then [] else Ma (Dx d d.length 0 [s])
theorem WW (s:ByteArray):∀(l:List AL) (k:Nat) (x:AL),x∈l->Ac x.1 s=true->0<=Cv s k l
 | y :: l,k,x,hx,h=>by
  simp only[Cv];split
  .omega
  rename_i a;rcases By.1 hx with rfl|hx
  .exact absurd h a
  exact WW s l (k+1) x hx h
theorem FU {d:List AL} {x:AL} (hx:x∈d):0<=BL d x.1:=WW x.1 d 0 x hx (Y1 _)
theorem A8C {d:List AL} {o:List ByteArray} (h:gX d o) (s:ByteArray) {x:AL} (hx:x∈d):gX d (Fs s o x):=by
 unfold Fs;split
 .rename_i a;rw[An,UL]at a;have:=z8 h (FU hx);unfold MY at this
  rwa [As (by rw[a.2];simp)]at this
 exact h
theorem WX {d:List AL} (s:ByteArray):∀ {l:List AL} {o:List ByteArray},(∀x∈l,x∈d)->gX d o->gX d (l.foldl (Fs s) o)/\o.length<=(l.foldl (Fs s) o).length
 | [],o,_,h=>⟨h,NO _⟩
 | x :: l,o,hl,h=>by
  obtain⟨a,b⟩:=WX s (l:=l) (λy c=>hl y (by simp[c])) (A8C h s (hl x (by simp)));refine⟨a,UR ?_ b⟩;unfold Fs;split<;>simp
theorem R9 (s:ByteArray) {i:Nat}:∀ {l:List AL} {o:List ByteArray},i<o.length->(l.foldl (Fs s) o).getD i ByteArray.empty=o.getD i ByteArray.empty
 | [],_,_=>rfl
 | x :: l,o,h=>by
  have a:i<(Fs s o x).length/\(Fs s o x).getD i ByteArray.empty=o.getD i ByteArray.empty:=by
   unfold Fs;split
   .refine⟨by rw[BY];omega,?_⟩;simp only[AS];rw[Ug h]
   exact⟨h,rfl⟩
  rw[UN,R9 s a.1,a.2]
def d5:AZ:={ ins:=[FA,T9],pre:=λ(d,_,_)=>List.length d<=256,out:=λ(d,s,_)=>[.p GP (Dy d s)] }
attribute [local go_sem] d5
theorem A4v:Ad Tryz.prog 200 d5:=by
 refine fK [0,1,4,5,6,7,8,9,13,19,25,47,59] Tryz.func200 Tryz.ntmps200 (AF MU (AF HD (AF R5 AH))) ?_;rintro w0 O0 ⟨d,s,u⟩ b-v;have v:d.length<=256:=v;simp only[d5,AM];repeat'(first|exact trivial|apply eS rfl|refine rX b ?_ ?_|refine rC ?_ ?_<;>intro a<;>try(cases a;done))
 .have h1:Dy d s=[]:=by unfold Dy;rw[Bq a]
  exact fI b [.tmp 4] (by rw[h1];exact eR)
 have h1:Dy d s=Ma (Dx d d.length 0 [s]):=by unfold Dy;rw[As (AAm.2 a)]
 have D:gX d [s]:=⟨λx hx=>by
  have:x=s:=by simpa using hx
  rw[this];exact a,by simp⟩
 refine AK (ι:={x:Nat×List ByteArray//x.1<=x.2.length/\gX d x.2/\Dx d (d.length-x.1) x.1 x.2=Dx d d.length 0 [s]}) (λx=>⟨[(0,.p FA d),(5,.sr 15 T9 0 x.1.2.length),(6,.p (.int .i64) (x.1.1:Int))],[(15,.arr 9 T9 x.1.2)]⟩) (λx=>d.length-x.1.1) ⟨(0,[s]),by simp,D,rfl⟩ (eW [(15,.nm 15)]) (λx=>?_)
 obtain⟨⟨i,o⟩,hi,n,q⟩:=x;simp only at hi n q;have M:=n.len;simp only;repeat'(first|exact trivial|apply eS rfl|refine rX b ?_ ?_|refine rC ?_ ?_<;>intro a<;>try(cases a;done))
 .have w:i<o.length:=by exact eV
  have z:Dx d (d.length-(i+1)) (i+1) (d.foldl (Fs (o.getD i ByteArray.empty)) o)=Dx d d.length 0 [s]:=by
   rw[<-q];obtain⟨m,y⟩:∃m,d.length-i=m+1:=⟨d.length-i-1,by omega⟩;have E:d.length-(i+1)=m:=by omega
   rw[y,E];show _=if i<o.length then Dx d m (i+1) (d.foldl (Fs (o.getD i ByteArray.empty)) o) else o
   rw[Bq w]
  refine AK (ι:={k:Nat//k<=d.length}) (λk=>⟨[(0,.p FA d),(5,.sr 15 T9 0 ((d.take k.1).foldl (Fs (o.getD i ByteArray.empty)) o).length),(6,.p (.int .i64) (i:Int)),(7,.p (.int .i64) (k.1:Int))],[(15,.arr 9 T9 ((d.take k.1).foldl (Fs (o.getD i ByteArray.empty)) o))]⟩) (λk=>d.length-k.1) ⟨0,Is _⟩ (AD [(15,.nm 15)] rfl rfl ?_ ?_) (λk=>?_)
  .refine eM ?_;rfl
  .refine eM ?_;rfl
  obtain⟨k,hk⟩:=k;have g:=WX (o.getD i ByteArray.empty) (l:=d.take k) (o:=o) (λx hx=>Yb hx) n;have K:=g.1.len;have C:=λh:k<d.length=>Ey (Fs (o.getD i ByteArray.empty)) d d0 o h;have B:((d.take k).foldl (Fs (o.getD i ByteArray.empty)) o).getD i ByteArray.empty=o.getD i ByteArray.empty:=R9 _ w;simp only;generalize A:(d.take k).foldl (Fs (o.getD i ByteArray.empty)) o=f at *;repeat'(first|exact trivial|apply eS rfl|apply AB|refine rX b ?_ ?_|refine rC ?_ ?_<;>intro a<;>try(cases a;done))
  .have hl:=g.2;refine⟨a,?_,λ_=>a⟩;dsimp only[Ty.den]at *;omega
  .refine⟨by assumption,?_⟩;simp only[AQ];dsimp only[Ty.den]at *;omega
  .exact eV
  .have c:k<d.length:=by exact eV
   have e:=C c;rw[B]at a;have e2:Fs (o.getD i ByteArray.empty) f (d.getD k d0)=f++[(d.getD k d0).1]:=by
    unfold Fs;rw[Bq (by rw[An,UL];exact a)]
   rw[e2]at e;refine⟨⟨k+1,by omega⟩,by simp only;omega,AD [(15,.nm 15)] rfl rfl ?_ ?_⟩
   .simp only[e];exact eN
   simp only[e];exact eN
  .exact eV
  .have c:k<d.length:=by exact eV
   have e:=C c;rw[B]at a;have e2:Fs (o.getD i ByteArray.empty) f (d.getD k d0)=f:=by
    unfold Fs;rw[As];rw[An,UL];rintro⟨h1,t⟩;rw[a h1]at t;cases t
   rw[e2]at e;refine⟨⟨k+1,by omega⟩,by simp only;omega,AD [(15,.nm 15)] rfl rfl ?_ ?_⟩
   .simp only[e];exact eN
   simp only[e];exact eN
  .exact eV
  have c:d.take k=d:=At (by exact eV);rw[c]at A;rw[A]at z;have G:=g.1;have L:=g.2;exact⟨⟨(i+1,f),by simp only;omega,G,z⟩,by simp only;omega,eW [(15,.nm 15)]⟩
 have F:o=Dx d d.length 0 [s]:=by
  rw[<-q];cases y:d.length-i with
  | zero=>rfl
  | succ m =>
   show _=if i<o.length then _ else o
   rw[As (by exact eV)]
 rw[<-F]at h1;refine AK (ι:={j:Nat//j<=o.length}) (λj=>⟨[(0,.p FA d),(5,.sr 15 T9 0 o.length),(8,.p GP ((o.take j.1).foldl Dv [])),(9,.p (.int .i64) (j.1:Int))],[(15,.arr 9 T9 o)]⟩) (λj=>o.length-j.1) ⟨0,Is _⟩ (AD [(15,.nm 15)] rfl rfl ?_ ?_) (λj=>?_)
 .exact eN
 .refine eM ?_;rfl
 obtain⟨j,J⟩:=j;have H:=λh:j<o.length=>Ey Dv o ByteArray.empty [] h;simp only;repeat'(first|exact trivial|apply eS rfl|apply AB|refine rX b ?_ ?_|refine rC ?_ ?_<;>intro a<;>try(cases a;done))
 .refine⟨a,?_⟩;have:=Z5 (o.take j);have I:=Yn j o;unfold Ma at this;dsimp only[Ty.den]at *;omega
 .exact eV
 .have r:j<o.length:=by exact eV
  have e:=H r;refine⟨⟨j+1,by omega⟩,by simp only;omega,AD [(15,.nm 15)] rfl rfl ?_ ?_⟩
  .exact eN
  simp only[e];exact eN
 have r:o.take j=o:=At (by exact eV);rw[r];exact fI b [.tmp 4] (by rw[h1];unfold Ma;exact eR)
end
section
attribute [local go_sem] PQ dT pV Ji
def Lk (d:List AL) (o:List ByteArray) (x:ByteArray):List ByteArray:=if 0<=BL d x then Dv o x else o
def Cn (d:List AL) (l:List ByteArray):List ByteArray:=l.foldl (Lk d) []
theorem Jk (d:List AL) (l:List ByteArray):(Cn d l).length<=l.length:=by
 have key:∀(l o:List ByteArray),(l.foldl (Lk d) o).length<=o.length+l.length:=by
  intro l;induction l with
  | nil=>intro o;simp
  | cons x l a =>
   intro o;have h1:=a (Lk d o x);have b:(Lk d o x).length<=o.length+1:=by
    unfold Lk;split
    .exact MX o x
    omega
   simp only[UN,No];omega
 have:=key l [];simpa[Cn] using this
def SA:AZ:={ ins:=[FA,GP],pre:=λ(_,l,_)=>List.length l<=100000,out:=λ(d,l,_)=>[.p GP (Cn d l)] }
attribute [local go_sem] SA
theorem j9:Ad Tryz.prog 221 SA:=by
 refine fK [0,1,4,5,6,10,19] Tryz.func221 Tryz.ntmps221 (AF MU (AF R5 AH)) ?_;rintro w0 O0 ⟨d,l,u⟩ c-hl;have hl:l.length<=100000:=hl;simp only[SA,AM];repeat'(first|exact trivial|apply eS rfl|refine rX c ?_ ?_)
 refine AK (ι:={k:Nat//k<=l.length}) (λk=>⟨[(0,.p FA d),(1,.p GP l),(5,.p GP (Cn d (l.take k.1))),(6,.p (.int .i64) (k.1:Int))],[]⟩) (λk=>l.length-k.1) ⟨0,Is _⟩ (AD [] rfl rfl ?_ ?_) (λk=>?_)
 .exact eN
 .refine eM ?_;rfl
 obtain⟨k,hk⟩:=k;have hn:=Jk d (l.take k);have f:=Yn k l;have hs:=λh:k<l.length=>Ey (Lk d) l ByteArray.empty [] h;simp only;repeat'(first|exact trivial|apply eS rfl|apply AB|refine rX c ?_ ?_|refine rC ?_ ?_<;>intro b<;>try(cases b;done))
 .exact b
 .exact⟨by assumption,by omega⟩
 .exact eV
 .have a:k<l.length:=by exact eV
  have e:Cn d (l.take (k+1))=Lk d (Cn d (l.take k)) (l.getD k ByteArray.empty):=hs a;unfold Lk at e;rw[Bq b]at e;refine⟨⟨k+1,by omega⟩,by simp only;omega,AD [] rfl rfl ?_ ?_⟩
  .exact eN
  simp only[e];exact eN
 .exact eV
 .have a:k<l.length:=by exact eV
  have e:Cn d (l.take (k+1))=Lk d (Cn d (l.take k)) (l.getD k ByteArray.empty):=hs a;unfold Lk at e;rw[As (AGg.2 b)]at e;refine⟨⟨k+1,by omega⟩,by simp only;omega,AD [] rfl rfl ?_ ?_⟩
  .exact eN
  simp only[e];exact eN
 have a:l.take k=l:=At (by exact eV);rw[a];exact fI c [.tmp 4]
def A4w (d:List AL) (all:List ByteArray) (i:Nat) (k:Nat):Bool:=(k:Int)==(i:Int)||!Af (PU d (all.getD i ByteArray.empty)) (all.getD k ByteArray.empty)
def Z7 (d:List AL) (all:List ByteArray) (i n:Nat):Bool:=(List.range n).all (A4w d all i)
def UF (d:List AL) (all:List ByteArray) (n:Nat):List ByteArray:=((List.range n).filter λi=>Z7 d all i all.length).map λi=>all.getD i ByteArray.empty
def CF (d:List AL) (l:List ByteArray):List ByteArray:=UF d (Cn d l) (Cn d l).length
theorem A1G (d:List AL) (all:List ByteArray) (n:Nat):UF d all (n+1)=UF d all n++if Z7 d all n all.length=true then [all.getD n ByteArray.empty] else []:=by
 unfold UF;rw[Yf,AFa,UZ]
 congr 1
 rw[Yr,AFG];split<;>rfl
theorem kA (d:List AL) (all:List ByteArray) (n:Nat):(UF d all n).length<=n:=by
 unfold UF;rw[OF];exact UR (Yw _ _) (by simp)
theorem pW (d:List AL) (all:List ByteArray) (i n:Nat):Z7 d all i (n+1)=(Z7 d all i n&&A4w d all i n):=by
 unfold Z7;rw[Yf,AF3];simp
def Mb:AZ:={ ins:=[FA,GP],pre:=λ(d,l,_)=>WV d/\List.length d<=256/\List.length l<=100000,out:=λ(d,l,_)=>[.p GP (CF d l)] }
attribute [local go_sem] Mb
theorem WY:Ad Tryz.prog 206 Mb:=by
 refine fK [0,1,4,5,6,7,8,9,10,17,29,47] Tryz.func206 Tryz.ntmps206 (AF j9 (AF A4u (AF HD AH))) ?_;rintro w0 O0 ⟨d,l,u⟩ c-⟨m,f,hl⟩;have f:d.length<=256:=f;have hl:l.length<=100000:=hl;have j:CF d l=UF d (Cn d l) (Cn d l).length:=rfl;have n:=Jk d l;simp only[Mb,AM];repeat'(first|exact trivial|apply eS rfl|refine rX c ?_ ?_)
 .exact hl
 rw[j];generalize Cn d l=all at *;refine AK (ι:={i:Nat//i<=all.length}) (λi=>⟨[(0,.p FA d),(5,.sr 54 T9 0 (UF d all i.1).length),(6,.p GP all),(7,.p (.int .i64) (i.1:Int))],[(54,.arr 9 T9 (UF d all i.1))]⟩) (λi=>all.length-i.1) ⟨0,Is _⟩ (AD [(54,.nil)] rfl rfl ?_ ?_) (λi=>?_)
 .refine eM ?_;rfl
 .refine eM ?_;rfl
 obtain⟨i,hi⟩:=i;have o:=kA d all i;have b:=A1G d all i;simp only;repeat'(first|exact trivial|apply eS rfl|refine rX c ?_ ?_|refine rC ?_ ?_<;>intro a<;>try(cases a;done))
 .exact⟨a,m,f⟩
 .have g:i<all.length:=by exact eV
  refine AK (ι:={k:Nat//k<=all.length}) (λk=>⟨[(0,.p FA d),(5,.sr 54 T9 0 (UF d all i).length),(6,.p GP all),(7,.p (.int .i64) (i:Int)),(8,.p GP (PU d (all.getD i ByteArray.empty))),(9,.p .bool (Z7 d all i k.1)),(10,.p (.int .i64) (k.1:Int))],[(54,.arr 9 T9 (UF d all i))]⟩) (λk=>all.length-k.1) ⟨0,Is _⟩ (AD [(54,.nm 54)] rfl rfl ?_ ?_) (λk=>?_)
  .exact eN
  .refine eM ?_;rfl
  obtain⟨k,hk⟩:=k;have h:=pW d all i k;simp only;repeat'(first|exact trivial|apply eS rfl|apply AB|refine rX c ?_ ?_|refine rC ?_ ?_<;>intro a<;>try(cases a;done))
  .exact λ_=>a
  .exact eV
  .have e:k<all.length:=by exact eV
   refine⟨⟨k+1,by omega⟩,by simp only;omega,AD [(54,.nm 54)] rfl rfl ?_ ?_⟩
   .exact eN
   simp only[h];unfold A4w;exact eN
  .refine⟨by assumption,?_⟩;simp only[AQ];omega
  .exact eV
  .have e:k=all.length:=by exact eV
   subst e;rw[a,Bq rfl]at b;refine⟨⟨i+1,by omega⟩,by simp only;omega,AD [(54,.nm 54)] rfl rfl ?_ ?_⟩
   .simp only[b];exact eN
   simp only[b];exact eN
  .exact eV
  have e:k=all.length:=by exact eV
  subst e;rw[a,As (by simp),Uh]at b;refine⟨⟨i+1,by omega⟩,by simp only;omega,AD [(54,.nm 54)] rfl rfl ?_ ?_⟩
  .simp only[b];exact eN
  simp only[b];exact eN
 have g:i=all.length:=by exact eV
 subst g;refine Fl [54] ?_;exact fI c [.tmp 4]
end
section
attribute [local go_sem] LG
def ofA (b:List Int) (x:Int):List Int:=b.set (x.tdiv 64).toNat (B7 .or .u64 (b.getD (x.tdiv 64).toNat 0) (Tv .u64 1 (x.tmod 64)))
def ofL (l:List Int):List Int:=l.foldl ofA (List.replicate 64 0)
def okB (x:Int):Bool:=!(decide (x<0)||decide (4095<x))
def ofF (l:List Int):List Int×Int:=if l.all okB=true then (BP (ofL l),0) else ([],2)
theorem Qt (l:List Int):(ofL l).length=64:=by
 have key:∀(l b:List Int),(l.foldl ofA b).length=b.length:=by
  intro l;induction l with
  | nil=>intro b;rfl
  | cons x l a =>
   intro b;rw[UN,a];simp[ofA]
 unfold ofL;rw[key];simp
def ofS:AZ:={ ins:=[Ft],pre:=λ_=>True,out:=λ(l,_)=>[.p BN (ofF l).1,.p Fm (ofF l).2] }
theorem AEI:Ad Tryz.prog 202 ofS:=by
 refine fK [0,2,3,4,5,10,24] Tryz.func202 Tryz.ntmps202 (AF Nb AH) ?_;rintro w0 O0 ⟨l,u⟩ c ⟨⟨hl,-⟩,-⟩ -;simp only[AQ]at hl;simp only[ofS,AM];repeat'(first|exact trivial|apply eS rfl|refine rX c ?_ ?_)
 .simp only[AQ];omega
 refine AK (ι:={k:Nat//k<=l.length/\(l.take k).all okB=true}) (λk=>⟨[(0,.p Ft l),(4,.sr 6 Qp 0 (ofL (l.take k.1)).length),(5,.p (.int .i64) (k.1:Int))],[(6,.arr 186 Qp (ofL (l.take k.1)))]⟩) (λk=>l.length-k.1) ⟨0,Is _,rfl⟩ (AD [(6,.nm 6)] rfl rfl ?_ ?_) (λk=>?_)
 .refine eM ?_;rfl
 .refine eM ?_;rfl
 obtain⟨k,hk,hf⟩:=k;have d:=Qt (l.take k);have hs:∀h:k<l.length,ofL (l.take (k+1))=ofA (ofL (l.take k)) (l.getD k 0):=λh=>Ey ofA l 0 _ h;simp only;repeat'(first|exact trivial|apply eS rfl|apply AB|refine rX c ?_ ?_|refine rC ?_ ?_<;>intro a<;>try(cases a;done))
 .exact⟨a,λ_=>a⟩
 .have b:k<l.length:=by exact eV
  have h1:ofF l=([],2):=by
   unfold ofF;rw[As];intro h;have:=OR.1 h _ (AE l 0 b);unfold okB at this;rw[UL,Yl,To,To]at this;rcases a with h|h
   .exact this.1 h
   exact this.2 h
  exact fI c [.tmp 2,.tmp 3] (by rw[h1];exact eR)
 .obtain⟨h0,h1⟩:=a;have e1:Int.tdiv (l.getD k 0) 64=l.getD k 0 / 64:=Yq h0;have e2:Int.tmod (l.getD k 0) 64=l.getD k 0 % 64:=ABP h0;rw[e1,e2,d];refine⟨?_,⟨by decide,?_,?_⟩,?_,⟨by decide,?_,?_⟩,⟨?_,?_⟩,?_,⟨by decide,?_,?_⟩,⟨?_,?_⟩,?_,?_,?_⟩<;>exact eV
 .exact eV
 .have b:k<l.length:=by exact eV
  have e:=hs b;refine⟨⟨k+1,by omega,?_⟩,by simp only;omega,AD [(6,.nm 6)] rfl rfl ?_ ?_⟩
  .rw[KH l 0 _ b,hf,AFT];unfold okB;rw[UL,Yl,To,To];exact⟨AAm.2 a.1,AAm.2 a.2⟩
  .simp only[e];refine eM ?_;rfl
  simp only[e];refine eM ?_;rw[<-e,Qt,Qt]
 have b:l.take k=l:=At (by exact eV);rw[b]at hf ⊢;have h1:ofF l=(BP (ofL l),0):=by unfold ofF;rw[Bq hf]
 have f:=Qt l;refine Fl [6] ?_;repeat'(first|apply eS rfl|refine rX c ?_ ?_)
 .rw[f];decide
 exact fI c [.tmp 2,.tmp 3] (by rw[h1];exact eR)
end
section
attribute [local go_sem] WU Qq
def pX (l:List (List Int)) (b:List Int):Bool:=l.any λx=>KG x b
def AB6:AZ:={ ins:=[UD,BN],pre:=λ_=>True,out:=λ(l,b,_)=>[.p .bool (pX l b)],lend:=true }
theorem AB7:Ad Tryz.prog 203 AB6:=by
 refine fK [0,1,4,5,9,17] Tryz.func203 Tryz.ntmps203 (AF z7 AH) ?_;rintro w0 O0 ⟨l,n,u⟩ a ⟨⟨hl,-⟩,-⟩ -;simp only[AQ]at hl;simp only[AB6,AM];repeat'(first|exact trivial|apply eS rfl|refine rX a ?_ ?_)
 refine AK (ι:={k:Nat//k<=l.length/\(l.take k).any (λx=>KG x n)=false}) (λk=>⟨[(0,.p UD l),(1,.p BN n),(5,.p (.int .i64) (k.1:Int))],[]⟩) (λk=>l.length-k.1) ⟨0,by simp⟩ (eW []) (λk=>?_)
 obtain⟨k,hk,c⟩:=k;repeat'(first|exact trivial|apply eS rfl|apply AB|refine rX a ?_ ?_|refine rC ?_ ?_<;>intro b<;>try(cases b;done))
 .exact eV
 .have d:k<l.length:=by exact eV
  have h1:pX l n=true:=JN l [] _ d b;exact fI a [.tmp 4] (by rw[h1];exact eR)
 .exact eV
 .have d:k<l.length:=by exact eV
  refine⟨⟨k+1,by exact eV,?_⟩,by simp only;exact eV,AD [] rfl rfl ?_ ?_⟩
  .rw[Na l [] _ d,c];exact b
  .exact eN
  exact eN
 have hk:l.take k=l:=At (by exact eV);rw[hk]at c;have h1:pX l n=false:=c;exact fI a [.tmp 4] (by rw[h1];exact eR)
abbrev AU:=ByteArray×List Int
abbrev c0:AU:=(ByteArray.empty,[])
def OW (l:List AU) (i j:Int):Bool:=Ex (l.getD j.toNat c0).2 (l.getD i.toNat c0).2
def z9:AZ:={ ins:=[KF,T3,T3],pre:=λ(l,i,j,_)=>((0:Int)<=i/\i<(List.length l:Int))/\((0:Int)<=j/\j<(List.length l:Int))/\(∀x∈(l:List AU),x.2.length<=100000),out:=λ(l,i,j,_)=>[.p .bool (OW l i j)],lend:=true }
theorem A00:Ad Tryz.prog 166 z9:=by
 refine fK [0,1,2,6] Tryz.func166 Tryz.ntmps166 (AF R7 AH) ?_;rintro w0 O0 ⟨l,i,j,u⟩ a-⟨hi,b,hx⟩;simp only[z9,AM];repeat'(first|exact trivial|apply eS rfl|refine rX a ?_ ?_)
 .exact⟨b,hi,hx _ (AE (l:List AU) c0 (by exact eV))⟩
 exact fI a [.tmp 6] (by unfold OW;exact eR)
end
section
attribute [local go_sem] WU
def SB (s:ByteArray):Nat->List AU->Int
 | _,[]=>-1
 | k,x :: l=>if Ac x.1 s=true then (k:Int) else SB s (k+1) l
def Dc (l:List AU) (s:ByteArray):Int:=SB s 0 l
theorem Z8 (s:ByteArray) (l:List AU) {k:Nat} (h:k<l.length):SB s k (l.drop k)=if Ac (l.getD k c0).1 s=true then (k:Int) else SB s (k+1) (l.drop (k+1)):=by
 rw[On h];have e:l.getD k c0=l[k]:=by simp[AS,h]
 rw[e];rfl
def Uy:AZ:={ ins:=[KF,T9],pre:=λ_=>True,out:=λ(l,s,_)=>[.p T3 (Dc l s)],lend:=true }
theorem Z9:Ad Tryz.prog 168 Uy:=by
 refine fK [0,1,4,5,9,18] Tryz.func168 Tryz.ntmps168 AH ?_;rintro w0 O0 ⟨l,s,u⟩ c ⟨⟨hl,-⟩,-⟩ -;simp only[AQ]at hl;simp only[Uy,AM];repeat'(first|exact trivial|apply eS rfl|refine rX c ?_ ?_)
 refine AK (ι:={k:Nat//k<=l.length/\SB s k (l.drop k)=Dc l s}) (λk=>⟨[(0,.p KF l),(1,.p T9 s),(5,.p (.int .i64) (k.1:Int))],[]⟩) (λk=>l.length-k.1) ⟨0,Is _,rfl⟩ (eW []) (λk=>?_)
 obtain⟨k,hk,hf⟩:=k;simp only;repeat'(first|exact trivial|apply eS rfl|apply AB|refine rX c ?_ ?_|refine rC ?_ ?_<;>intro b<;>try(cases b;done))
 .exact b
 .have a:k<l.length:=by exact eV
  rw[Z8 s l a,Bq b]at hf;exact fI c [.tmp 4] (by rw[<-hf];exact eR)
 .exact eV
 .have a:k<l.length:=by exact eV
  rw[Z8 s l a,As (by rw[b];simp)]at hf;exact⟨⟨k+1,by omega,hf⟩,by simp only;omega,eW []⟩
 have a:l.drop k=[]:=TO (by exact eV);rw[a]at hf;exact fI c [.tmp 4] (by rw[<-hf];first|exact eR|refine Uv ?_;rfl)
end
section
attribute [local go_sem] WU LG
def WZ (s:List Int):Nat->List AU->Int
 | _,[]=>-1
 | k,x :: l=>if KG x.2 s=true then (k:Int) else WZ s (k+1) l
def d6 (l:List AU) (b:List Int):Int:=WZ (BP b) 0 l
theorem Wa (s:List Int) (l:List AU) {k:Nat} (h:k<l.length):WZ s k (l.drop k)=if KG (l.getD k c0).2 s=true then (k:Int) else WZ s (k+1) (l.drop (k+1)):=by
 rw[On h];have e:l.getD k c0=l[k]:=by simp[AS,h]
 rw[e];rfl
def pY:AZ:={ ins:=[KF,BN],pre:=λ(_,b,_)=>List.length b<=100000,out:=λ(l,b,_)=>[.p T3 (d6 l b)],lend:=true }
theorem A4x:Ad Tryz.prog 159 pY:=by
 refine fK [0,1,4,5,6,12,21] Tryz.func159 Tryz.ntmps159 (AF Nb (AF z7 AH)) ?_;rintro w0 O0 ⟨l,b,u⟩ d ⟨⟨hl,-⟩,-⟩ e;simp only[AQ]at hl;simp only[pY,AM];repeat'(first|exact trivial|apply eS rfl|refine rX d ?_ ?_)
 .exact e
 have f:d6 l b=WZ (BP b) 0 l:=rfl;rw[f];generalize BP b=s at *;refine AK (ι:={k:Nat//k<=l.length/\WZ s k (l.drop k)=WZ s 0 l}) (λk=>⟨[(0,.p KF l),(5,.p BN s),(6,.p (.int .i64) (k.1:Int))],[]⟩) (λk=>l.length-k.1) ⟨0,Is _,rfl⟩ (eW []) (λk=>?_)
 obtain⟨k,hk,hf⟩:=k;simp only;repeat'(first|exact trivial|apply eS rfl|apply AB|refine rX d ?_ ?_|refine rC ?_ ?_<;>intro c<;>try(cases c;done))
 .exact c
 .have a:k<l.length:=by exact eV
  rw[Wa s l a,Bq c]at hf;exact fI d [.tmp 4] (by rw[<-hf];exact eR)
 .exact eV
 .have a:k<l.length:=by exact eV
  rw[Wa s l a,As (by rw[c];simp)]at hf;exact⟨⟨k+1,by omega,hf⟩,by simp only;omega,eW []⟩
 have a:l.drop k=[]:=TO (by exact eV);rw[a]at hf;exact fI d [.tmp 4] (by rw[<-hf];first|exact eR|refine Uv ?_;rfl)
end
section
attribute [local go_sem] WU
def kB (s:ByteArray):List (ByteArray×ByteArray)->ByteArray×Bool
 | []=>(ByteArray.empty,false)
 | x :: l=>if Ac x.1 s=true then (x.2,true) else kB s l
def Gi (x:AL) (s:ByteArray):ByteArray×Bool:=kB s x.2.2
theorem aA (s:ByteArray) (l:List (ByteArray×ByteArray)) {k:Nat} (h:k<l.length):kB s (l.drop k)=if Ac (l.getD k (ByteArray.empty,ByteArray.empty)).1 s=true then ((l.getD k (ByteArray.empty,ByteArray.empty)).2,true) else kB s (l.drop (k+1)):=by
 rw[On h];have e:l.getD k (ByteArray.empty,ByteArray.empty)=l[k]:=by simp[AS,h]
 rw[e];rfl
def d7:AZ:={ ins:=[A1w,T9],pre:=λ_=>True,out:=λ(x,s,_)=>[.p T9 (Gi x s).1,.p .bool (Gi x s).2],lend:=true }
theorem kC:Ad Tryz.prog 195 d7:=by
 refine fK [0,1,2,4,5,6,11,21] Tryz.func195 Tryz.ntmps195 AH ?_;rintro w0 O0 ⟨⟨nm,sup,a⟩,s,u⟩ d ⟨⟨-,-,f,-⟩,-⟩ -;simp only[AQ]at f;simp only[d7,AM];repeat'(first|exact trivial|apply eS rfl|refine rX d ?_ ?_)
 have e:({ data:=#[] }:ByteArray).size<=AQ:=by decide
 rw[Bq e];refine AK (ι:={k:Nat//k<=a.length/\kB s (a.drop k)=Gi (nm,sup,a) s}) (λk=>⟨[(1,.p T9 s),(2,.bp 2 [] 0),(6,.p (.int .i64) (k.1:Int))],[(2,.box 158 true [.p T9 nm,.p GP sup,.p jS a])]⟩) (λk=>a.length-k.1) ⟨0,Is _,rfl⟩ (eW [(2,.nm 2)]) (λk=>?_)
 obtain⟨k,hk,hf⟩:=k;simp only;repeat'(first|exact trivial|apply eS rfl|apply AB|refine rX d ?_ ?_|refine rC ?_ ?_<;>intro c<;>try(cases c;done))
 .exact c
 .assumption
 .have b:k<a.length:=by exact eV
  rw[aA s a b,Bq c]at hf;exact fI d [.tmp 4,.tmp 5] (by rw[<-hf];exact eR)
 .exact eV
 .have b:k<a.length:=by exact eV
  rw[aA s a b,As (by rw[c];simp)]at hf;exact⟨⟨k+1,by omega,hf⟩,by simp only;omega,eW [(2,.nm 2)]⟩
 have b:a.drop k=[]:=TO (by exact eV);rw[b]at hf;rw[Bq e];exact fI d [.tmp 4,.tmp 5] (by rw[<-hf];first|exact eR|refine Uv ?_;exact⟨rfl,rfl⟩)
end
section
attribute [local go_sem] pU
def F8 (a b:AU):Bool:=decide (((IU b.2).length:Int)<((IU a.2).length:Int))||((IU a.2).length:Int)==((IU b.2).length:Int)&&Cj a.1 b.1
def d8:AZ:={ ins:=[dS,dS],pre:=λ(a,b,_)=>List.length (a:AU).2<=100000/\List.length (b:AU).2<=100000,out:=λ(a,b,_)=>[.p .bool (F8 a b)],lend:=true }
theorem A1I:Ad Tryz.prog 165 d8:=by
 refine fK [0,1,2,3,4,5,6] Tryz.func165 Tryz.ntmps165 (AF A4q AH) ?_;rintro w0 O0 ⟨⟨c,ac⟩,⟨e,d⟩,u⟩ a-⟨ha,b⟩;simp only[d8,AM];repeat'(first|exact trivial|apply eS rfl|refine rX a ?_ ?_)
 .exact ha
 .exact b
 exact fI a [.tmp 4] (by unfold F8;exact eR)
end
section
attribute [local go_sem] d5 Ji ofS
def PW (low all:List ByteArray) (n:Nat):List Int:=((List.range n).filter λ(i:Nat)=>Af low (all.getD i ByteArray.empty)).map λ(i:Nat)=>(i:Int)
theorem A1J (low all:List ByteArray) (n:Nat):PW low all (n+1)=PW low all n++if Af low (all.getD n ByteArray.empty)=true then [(n:Int)] else []:=by
 unfold PW;rw[Yf,AFa,UZ]
 congr 1
 rw[Yr,AFG];split<;>rfl
theorem A4y (low all:List ByteArray) (n:Nat):(PW low all n).length<=n:=by
 unfold PW;rw[OF];exact UR (Yw _ _) (by simp)
def Hc (d:List AL) (all:List ByteArray) (s:ByteArray):List Int:=(ofF (PW (Dy d s) all all.length)).1
def A4z:AZ:={ ins:=[FA,GP,T9],pre:=λ(d,l,_,_)=>List.length d<=256/\List.length l<=100000,out:=λ(d,l,s,_)=>[.p BN (Hc d l s)] }
theorem A8E:Ad Tryz.prog 162 A4z:=by
 refine fK [0,1,2,6,7,8,9,10,18,26] Tryz.func162 Tryz.ntmps162 (AF A4v (AF HD (AF AEI AH))) ?_;rintro w0 O0 ⟨d,l,s,u⟩ b-⟨f,hl⟩;have hl:l.length<=100000:=hl;have e:Hc d l s=(ofF (PW (Dy d s) l l.length)).1:=rfl;simp only[A4z,AM];repeat'(first|exact trivial|apply eS rfl|refine rX b ?_ ?_)
 .exact f
 rw[e];generalize Dy d s=low at *;refine AK (ι:={n:Nat//n<=l.length}) (λn=>⟨[(0,.p FA d),(1,.p GP l),(2,.p T9 s),(7,.p GP low),(8,.sr 30 T3 0 (PW low l n.1).length),(9,.p (.int .i64) (n.1:Int))],[(30,.arr 3 T3 (PW low l n.1))]⟩) (λn=>l.length-n.1) ⟨0,Is _⟩ (AD [(30,.nil)] rfl rfl ?_ ?_) (λn=>?_)
 .refine eM ?_;rfl
 .refine eM ?_;rfl
 obtain⟨n,hn⟩:=n;have g:=A4y low l n;have hs:=A1J low l n;simp only;repeat'(first|exact trivial|apply eS rfl|apply AB|refine rX b ?_ ?_|refine rC ?_ ?_<;>intro a<;>try(cases a;done))
 .exact a
 .rw[a,Bq rfl]at hs;simp only[AQ];dsimp only[Ty.den]at *;omega
 .exact eV
 .have c:n<l.length:=by exact eV
  rw[a,Bq rfl]at hs;refine⟨⟨n+1,by omega⟩,by simp only;omega,AD [(30,.nm 30)] rfl rfl ?_ ?_⟩
  .simp only[hs];exact eN
  simp only[hs];exact eN
 .exact eV
 .have c:n<l.length:=by exact eV
  rw[a,As (by simp),Uh]at hs;refine⟨⟨n+1,by omega⟩,by simp only;omega,AD [(30,.nm 30)] rfl rfl ?_ ?_⟩
  .simp only[hs];exact eN
  simp only[hs];exact eN
 have c:n=l.length:=by exact eV
 subst c;refine Fl [30] ?_;repeat'(first|exact trivial|apply eS rfl|refine rX b ?_ ?_)
 exact fI b [.tmp 6]
end
section
attribute [local go_sem] dT
def OX (o:List ByteArray) (f:ByteArray×ByteArray):List ByteArray:=Dv o f.1
def PX (o:List ByteArray) (x:AL):List ByteArray:=x.2.2.foldl OX o
def DU (d:List AL):List ByteArray:=d.foldl PX []
theorem aB (l:List (ByteArray×ByteArray)):∀o:List ByteArray,(l.foldl OX o).length<=o.length+l.length:=by
 induction l with
 | nil=>intro o;simp
 | cons x l a =>
  intro o;have h1:=a (OX o x);have b:(OX o x).length<=o.length+1:=MX o x.1;simp only[UN,No];omega
theorem pZ {d:List AL} (h:∀x∈d,x.2.2.length<=256):∀(l:List AL),(∀x∈l,x∈d)->∀o:List ByteArray,(l.foldl PX o).length<=o.length+256*l.length:=by
 intro l;induction l with
 | nil=>intro _ o;simp
 | cons x l b =>
  intro hl o;have h1:=b (λy a=>hl y (by simp[a])) (PX o x);have c:=aB x.2.2 o;have e:=h x (hl x (by simp));have f:(PX o x).length=(x.2.2.foldl OX o).length:=rfl;simp only[UN,No];omega
def Wb:AZ:={ ins:=[FA],pre:=λ(d,_)=>List.length d<=256/\(∀x∈(d:List AL),x.2.2.length<=256),out:=λ(d,_)=>[.p GP (DU d)] }
theorem Wc:Ad Tryz.prog 157 Wb:=by
 refine fK [0,2,3,4,5,9,19] Tryz.func157 Tryz.ntmps157 (AF R5 AH) ?_;rintro w0 O0 ⟨d,u⟩ c-⟨f,hx⟩;have f:d.length<=256:=f;simp only[Wb,AM];repeat'(first|exact trivial|apply eS rfl|refine rX c ?_ ?_)
 refine AK (ι:={i:Nat//i<=d.length}) (λi=>⟨[(0,.p FA d),(3,.p GP (DU (d.take i.1))),(4,.p (.int .i64) (i.1:Int))],[]⟩) (λi=>d.length-i.1) ⟨0,Is _⟩ (AD [] rfl rfl ?_ ?_) (λi=>?_)
 .exact eN
 .refine eM ?_;rfl
 obtain⟨i,hi⟩:=i;have l:=pZ hx (d.take i) (λx h=>Yb h) [];have s:=Yn i d;have hs:=λh:i<d.length=>Ey PX d d0 [] h;have g:∀e,DU e=e.foldl PX []:=λ_=>rfl;simp only;repeat'(first|exact trivial|apply eS rfl|refine rX c ?_ ?_|refine rC ?_ ?_<;>intro a<;>try(cases a;done))
 .have j:i<d.length:=by exact eV
  have t:=hx _ (AE d d0 j);have hs:=hs j;rw[<-g,<-g]at hs;rw[<-g]at l;generalize DU (d.take i)=o at *;refine AK (ι:={k:Nat//k<=(d.getD i d0).2.2.length}) (λk=>⟨[(0,.p FA d),(3,.p GP (((d.getD i d0).2.2.take k.1).foldl OX o)),(4,.p (.int .i64) (i:Int)),(5,.p (.int .i64) (k.1:Int))],[]⟩) (λk=>(d.getD i d0).2.2.length-k.1) ⟨0,Is _⟩ (AD [] rfl rfl ?_ ?_) (λk=>?_)
  .exact eN
  .refine eM ?_;rfl
  obtain⟨k,hk⟩:=k;have q:k<=(d.getD i d0).2.2.length:=hk;have n:=aB ((d.getD i d0).2.2.take k) o;have r:=Yn k (d.getD i d0).2.2;have m:=λh:k<(d.getD i d0).2.2.length=>Ey OX (d.getD i d0).2.2 (ByteArray.empty,ByteArray.empty) o h;simp only;repeat'(first|apply eS rfl|apply AB|refine rX c ?_ ?_|refine rC ?_ ?_<;>intro a<;>try(cases a;done))
  .assumption
  .refine⟨by assumption,a,?_⟩;simp only[Yo]at l;dsimp only[Ty.den]at *;omega
  .have h1:(k:Int)<((d.getD i d0).2.2.length:Int):=a;exact eV
  .have b:k<(d.getD i d0).2.2.length:=Do.1 a;have e:=m b;refine⟨⟨k+1,b⟩,by simp only;omega,AD [] rfl rfl ?_ ?_⟩
   .exact eN
   simp only[e];unfold OX;exact eN
  .have:=f;exact eV
  have b:(d.getD i d0).2.2.take k=(d.getD i d0).2.2:=At (US.1 a);have e:DU (d.take (i+1))=((d.getD i d0).2.2.take k).foldl OX o:=by rw[b];exact hs
  refine⟨⟨i+1,j⟩,by simp only;omega,AD [] rfl rfl ?_ ?_⟩
  .exact eN
  simp only[e];exact eN
 have b:d.take i=d:=At (by exact eV);rw[b];exact fI c [.tmp 2]
end
theorem aC {d:List AL} {l:List ByteArray}:∀ {r:List ByteArray} {k:Nat},UE d l k r=0->∀s∈r,0<=BL d s
 | [],_,_,s,hs=>by cases hs
 | x :: r,k,h,s,hs=>by
  simp only[UE]at h;split at h
  .cases h
  rename_i h1;split at h
  .cases h
  rcases By.1 hs with rfl|hs
  .omega
  exact aC h s hs
theorem Qu {d:List AL}:∀ {l:List AL},LH d l=0->∀x∈l,∀s∈x.2.1,0<=BL d s
 | [],_,x,hx=>by cases hx
 | y :: l,h,x,hx=>by
  simp only[LH]at h;split at h
  .rename_i h1;exact absurd h h1
  rename_i h1;rcases By.1 hx with rfl|hx
  .exact aC (If h1)
  exact Qu h x hx
theorem A4A {d:List AL} (h:LI d=0):WV d:=Qu h
theorem BF {d:List AL} (h:BT d=0):WV d/\d.length<=256/\IX d=1/\Dw d=0/\d.length<=(Bl d).length:=by
 unfold BT at h;split at h
 .rename_i h1;exact absurd h h1
 rename_i h1;split at h
 .rename_i a;exact absurd h a
 rename_i a;split at h
 .rename_i b;exact absurd h b
 rename_i b;split at h
 .cases h
 rename_i c;split at h
 .cases h
 rename_i e;exact⟨A4A (If b),TN (If h1),If c,If a,by omega⟩
section
attribute [local go_sem] AB6 A4m
def HQ (l:List (List Int)) (i k:Nat):List (List Int) :=
 if (decide (0<((Gh (l.getD i []) (l.getD k [])).length:Int))&&!pX l (Gh (l.getD i []) (l.getD k [])))=true then l++[Gh (l.getD i []) (l.getD k [])] else l
def HR (i:Nat):Nat->Nat->List (List Int)->List (List Int)
 | 0,_,l=>l
 | n+1,k,l=>if l.length<=256 then HR i n (k+1) (HQ l i k) else l
def Jl:Nat->Nat->List (List Int)->List (List Int)
 | 0,_,l=>l
 | n+1,i,l=>if i<l.length/\l.length<=256 then Jl n (i+1) (HR i i 0 l) else l
def BC (c:List (List Int)):List (List Int):=Jl 257 0 c
theorem kD (a b:List Int):(Gh a b).length<=a.length:=by
 unfold Gh BP;have:=Ej .and a b a.length;rw[OS];omega
structure AAf (l:List (List Int)):Prop where
 len:l.length<=257
 wid:∀c∈l,c.length<=64
theorem Mc {l:List (List Int)} (h:∀c∈l,c.length<=64) (k:Nat):(l.getD k []).length<=64:=by
 rw[AS];cases hh:l[k]? with
 | none=>simp
 | some x=>exact h x (Yk hh)
theorem kE {l:List (List Int)} (h:∀c∈l,c.length<=64) (i k:Nat):∀c∈HQ l i k,c.length<=64:=by
 unfold HQ;split
 .intro c a;rcases IN.1 a with a|a
  .exact h c a
  have:c=Gh (l.getD i []) (l.getD k []):=by simpa using a
  rw[this];exact UR (kD _ _) (Mc h i)
 exact h
theorem A4B (l:List (List Int)) (i k:Nat):l.length<=(HQ l i k).length/\(HQ l i k).length<=l.length+1:=by
 unfold HQ;split
 .simp
 exact⟨NO _,Nat.le_succ _⟩
def d9:AZ:={ ins:=[UD],pre:=λ(c,_)=>List.length c<=256/\∀x∈(c:List (List Int)),x.length<=64,out:=λ(c,_)=>[.p UD (BC c)] }
theorem A1K:Ad Tryz.prog 163 d9:=by
 refine fK [0,2,3,4,5,6,18,28,48] Tryz.func163 Tryz.ntmps163 (AF A4n (AF AB7 AH)) ?_;rintro w0 O0 ⟨c,u⟩ d-⟨n,t⟩;have n:c.length<=256:=n;simp only[d9,AM];repeat'(first|exact trivial|apply eS rfl|refine rX d ?_ ?_)
 .simp only[AQ];dsimp only[Ty.den]at *;omega
 refine AK (ι:={x:Nat×List (List Int)//x.1<=256/\AAf x.2/\Jl (257-x.1) x.1 x.2=BC c}) (λx=>⟨[(3,.sr 7 BN 0 x.1.2.length),(4,.p (.int .i64) (x.1.1:Int))],[(7,.arr 140 BN x.1.2)]⟩) (λx=>257-x.1.1) ⟨(0,c),by simp,⟨by simp only;omega,t⟩,rfl⟩ (eW [(7,.nm 7)]) (λx=>?_)
 obtain⟨⟨i,l⟩,hi,⟨q,s⟩,f⟩:=x;simp only at hi q s f;simp only;repeat'(first|exact trivial|apply eS rfl|refine rX d ?_ ?_|refine rC ?_ ?_<;>intro a<;>try(cases a;done))
 .have w:i<l.length:=by omega
  have z:l.length<=256:=by omega
  have o:Jl (256-i) (i+1) (HR i i 0 l)=BC c:=by
   have e:257-i=(256-i)+1:=by omega
   rw[<-f,e];show _=if i<l.length/\l.length<=256 then Jl (256-i) (i+1) (HR i i 0 l) else l
   rw[Bq ⟨w,z⟩]
  refine AK (ι:={y:Nat×List (List Int)//y.1<=i/\AAf y.2/\l.length<=y.2.length/\HR i (i-y.1) y.1 y.2=HR i i 0 l}) (λy=>⟨[(3,.sr 7 BN 0 y.1.2.length),(4,.p (.int .i64) (i:Int)),(5,.p (.int .i64) (y.1.1:Int))],[(7,.arr 140 BN y.1.2)]⟩) (λy=>i-y.1.1) ⟨(0,l),by simp,⟨q,s⟩,NO _,rfl⟩ (eW [(7,.nm 7)]) (λy=>?_)
  obtain⟨⟨k,m⟩,hk,⟨g,b⟩,r,hf⟩:=y;simp only at hk g b r hf;simp only;repeat'(first|exact trivial|apply eS rfl|apply AB|refine rX d ?_ ?_|refine rC ?_ ?_<;>intro a<;>try(cases a;done))
  .exact⟨by exact eV,by exact eV,UR (Mc b i) (by decide)⟩
  .simp only[AQ];omega
  .omega
  .have e:HQ m i k=m++[Gh (m.getD i []) (m.getD k [])]:=by
    unfold HQ;rw[Bq];rw[An,DO,UL];exact a
   have C:=kE b i k;have D:=A4B m i k;refine⟨⟨(k+1,HQ m i k),by simp only;omega,⟨by simp only;omega,C⟩,by simp only;omega,?_⟩,by simp only;omega,AD [(7,.nm 7)] rfl rfl ?_ ?_⟩
   .simp only;rw[<-hf,show i-k=(i-(k+1))+1 by omega];show _=if m.length<=256 then HR i (i-(k+1)) (k+1) (HQ m i k) else m
    rw[Bq (by omega)]
   .simp only[e];exact eN
   simp only[e];exact eN
  .omega
  .have e:HQ m i k=m:=by
    unfold HQ;rw[As];rw[An,DO,UL];intro h;rw[a h.1]at h;exact absurd h.2 (by simp)
   refine⟨⟨(k+1,m),by simp only;omega,⟨g,b⟩,r,?_⟩,by simp only;omega,AD [(7,.nm 7)] rfl rfl ?_ ?_⟩
   .simp only;rw[<-hf,show i-k=(i-(k+1))+1 by omega];show _=if m.length<=256 then HR i (i-(k+1)) (k+1) (HQ m i k) else m
    rw[Bq (by omega),e]
   .exact eN
   exact eN
  .omega
  have B:m=HR i i 0 l:=by
   rw[<-hf];cases A:i-k with
   | zero=>rfl
   | succ j =>
    show _=if m.length<=256 then _ else m
    rw[As (by omega)]
  rw[<-B]at o;refine⟨⟨(i+1,m),by simp only;omega,⟨g,b⟩,?_⟩,by simp only;omega,AD [(7,.nm 7)] rfl rfl ?_ ?_⟩
  .simp only;rw[show 257-(i+1)=256-i by omega];exact o
  .exact eN
  exact eN
 have v:l=BC c:=by
  rw[<-f];cases A:257-i with
  | zero=>rfl
  | succ m =>
   show _=if i<l.length/\l.length<=256 then _ else l
   rw[As (by omega)]
 rw[<-v];refine Fl [7] ?_;exact fI d [.tmp 2]
theorem cs0 {α:Type} (x y:α):(if ({ data:=#[] }:ByteArray).size<=AQ then x else y)=x:=Bq (by show 0<=AQ;decide)
theorem cs1 {α:Type} (a:UInt8) (x y:α):(if ({ data:=#[a] }:ByteArray).size<=AQ then x else y)=x:=Bq (by show 1<=AQ;decide)
theorem cs2 {α:Type} (a b:UInt8) (x y:α):(if ({ data:=#[a,b] }:ByteArray).size<=AQ then x else y)=x:=Bq (by show 2<=AQ;decide)
theorem cs3 {α:Type} (a b c:UInt8) (x y:α):(if ({ data:=#[a,b,c] }:ByteArray).size<=AQ then x else y)=x:=Bq (by show 3<=AQ;decide)
theorem cs4 {α:Type} (a b c d:UInt8) (x y:α):(if ({ data:=#[a,b,c,d] }:ByteArray).size<=AQ then x else y)=x:=Bq (by show 4<=AQ;decide)
theorem cs5 {α:Type} (a b c d e:UInt8) (x y:α):(if ({ data:=#[a,b,c,d,e] }:ByteArray).size<=AQ then x else y)=x:=Bq (by show 5<=AQ;decide)
theorem cs6 {α:Type} (a b c d e f:UInt8) (x y:α):(if ({ data:=#[a,b,c,d,e,f] }:ByteArray).size<=AQ then x else y)=x:=Bq (by show 6<=AQ;decide)
theorem cs7 {α:Type} (a b c d e f g:UInt8) (x y:α):(if ({ data:=#[a,b,c,d,e,f,g] }:ByteArray).size<=AQ then x else y)=x:=Bq (by show 7<=AQ;decide)
theorem cs8 {α:Type} (a b c d e f g h:UInt8) (x y:α):(if ({ data:=#[a,b,c,d,e,f,g,h] }:ByteArray).size<=AQ then x else y)=x:=Bq (by show 8<=AQ;decide)
end
def BW (b:List Int) (i:Nat):Bool:=(b.getD (i / 64) 0).toNat.testBit (i % 64)
def U64 (x:Int):Prop:=0<=x/\x<18446744073709551616
theorem Fe {x:Int} (h:U64 x):(BitVec.ofInt 64 x).toNat=x.toNat:=by
 rw[BitVec.toNat_ofInt];have h1:=h.1;have a:=h.2;rw[Int.emod_eq_of_lt h1 (by simpa using a)]
theorem Qv {n:Nat} (h:n<18446744073709551616):IntKind.u64.wrap (n:Int)=n:=Kz (by rw[JH];omega)
theorem A8F {x y:Int} (hx:U64 x) (a:U64 y):B7 .or .u64 x y=((x.toNat ||| y.toNat:Nat):Int):=by
 have h1:(BitVec.ofInt IntKind.u64.bits x ||| BitVec.ofInt IntKind.u64.bits y).toNat=x.toNat ||| y.toNat:=by
  rw[BitVec.toNat_or];show (BitVec.ofInt 64 x).toNat ||| (BitVec.ofInt 64 y).toNat=_
  rw[Fe hx,Fe a]
 unfold B7;simp only;rw[h1];have e:(18446744073709551616:Nat)=2 ^ 64:=by decide
 refine Qv ?_;rw[e];refine Nat.or_lt_two_pow ?_ ?_
 .have:=hx.2;have:=hx.1;omega
 have:=a.2;have:=a.1;omega
theorem IY {x y:Int} (hx:U64 x) (a:U64 y):B7 .and .u64 x y=((x.toNat &&& y.toNat:Nat):Int):=by
 have h1:(BitVec.ofInt IntKind.u64.bits x &&& BitVec.ofInt IntKind.u64.bits y).toNat=x.toNat &&& y.toNat:=by
  rw[BitVec.toNat_and];show (BitVec.ofInt 64 x).toNat &&& (BitVec.ofInt 64 y).toNat=_;rw[Fe hx,Fe a]
 unfold B7;simp only;rw[h1];refine Qv (AFZ AFV ?_);have:=hx.2;have:=hx.1;omega
theorem SC {x y:Int}:B7 .andNot .u64 x y=((BitVec.ofInt 64 x &&& ~~~BitVec.ofInt 64 y).toNat:Int):=by
 show IntKind.u64.wrap ((BitVec.ofInt 64 x &&& ~~~BitVec.ofInt 64 y).toNat:Int)=_;exact Qv (BitVec.isLt _)
theorem TP {x y:Int} (hx:U64 x) (d:U64 y) (h:B7 .andNot .u64 x y=0) {r:Nat} (c:r<64) (b:x.toNat.testBit r=true):y.toNat.testBit r=true:=by
 rw[SC]at h;have h1:(BitVec.ofInt 64 x &&& ~~~BitVec.ofInt 64 y).toNat=0:=by omega
 have a:(BitVec.ofInt 64 x &&& ~~~BitVec.ofInt 64 y).toNat.testBit r=false:=by rw[h1];exact Nat.zero_testBit r
 rw[ACh,BitVec.getLsbD_and,BitVec.getLsbD_not,<-ACh,<-ACh,Fe hx,Fe d,b]at a;simpa[c] using a
theorem TQ {x:Int}:B7 .andNot .u64 x x=0:=by
 rw[SC];simp
theorem PY {b:List Int}:∀ {n:Nat},∀k,Cu b n<=k->k<n->b.getD k 0=0
 | 0,k,_,h=>by omega
 | n+1,k,h1,c=>by
  unfold Cu at h1;split at h1
  .rename_i a;by_cases hk:k=n
   .rw[hk];exact a
   exact PY k h1 (by omega)
  omega
theorem Qw (b:List Int) (k:Nat):(BP b).getD k 0=b.getD k 0:=by
 unfold BP;by_cases h:k<Cu b b.length
 .simp[AS,YS,h]
 have h1:(List.take (Cu b b.length) b).getD k 0=0:=by
  rw[AS,YS,As h];rfl
 rw[h1];by_cases a:k<b.length
 .exact(PY k (by omega) a).symm
 rw[AS,UV (by omega)];rfl
theorem PZ (b:List Int) (i:Nat):BW (BP b) i=BW b i:=by unfold BW;rw[Qw]
def JQ (b:List Int):Prop:=∀x∈b,U64 x
theorem BG {b:List Int} (h:JQ b) (k:Nat):U64 (b.getD k 0):=by
 rw[AS];cases hh:b[k]? with
 | none=>exact⟨by simp,by simp⟩
 | some x=>exact h x (Yk hh)
theorem Pa {b:List Int} (h:JQ b):JQ (BP b):=λx hx=>h x (Yb hx)
theorem Hz (b:List Int) (k:Nat):GS b (k:Int)=b.getD k 0:=by
 unfold GS;split
 .simp
 rename_i h;rw[AS,UV (by omega)];rfl
theorem Nc (op:BinOp) (a b:List Int) {n k:Nat} (h:k<n):(Gg op a b n).getD k 0=B7 op .u64 (a.getD k 0) (b.getD k 0):=by
 unfold Gg;rw[AS,Yc,oS h];show B7 op .u64 (a.getD k 0) (GS b (k:Int))=_;rw[Hz]
theorem eB {a b:List Int} (h:Ex a b=true) {k:Nat} (hk:k<a.length):B7 .andNot .u64 (a.getD k 0) (b.getD k 0)=0:=by
 unfold Ex R6 BP at h;have h1:(List.take (Cu (Gg .andNot a b a.length) (Gg .andNot a b a.length).length) (Gg .andNot a b a.length)).length=0:=by
  have:=YV.1 h;omega
 rw[OS,Ej]at h1;have d:=WR (Gg .andNot a b a.length) a.length;have c:=PY (b:=Gg .andNot a b a.length) (n:=a.length) k (by omega) hk;rw[Nc _ _ _ hk]at c;exact c
theorem Md {a b:List Int} (ha:JQ a) (c:JQ b) (h:Ex a b=true) {i:Nat} (hi:BW a i=true):BW b i=true:=by
 by_cases hk:i / 64<a.length
 .exact TP (BG ha _) (BG c _) (eB h hk) (AGu _ (by decide)) hi
 exfalso;unfold BW at hi;rw[AS,UV (by omega)]at hi;simp at hi
theorem SD {b:List Int}:∀ {n:Nat},(∀k,k<n->b.getD k 0=0)->Cu b n=0
 | 0,_=>rfl
 | n+1,h=>by
  unfold Cu;rw[Bq (h n (by omega))];exact SD λk hk=>h k (by omega)
theorem kF (a:List Int):Ex a a=true:=by
 unfold Ex R6 BP;have h1:Cu (Gg .andNot a a a.length) (Gg .andNot a a a.length).length=0:=by
  rw[Ej];exact SD λk hk=>by rw[Nc _ _ _ hk];exact TQ
 rw[h1];rfl
theorem kG (a:List Int):F7 a a=true:=by unfold F7;rw[kF];rfl
theorem A8G {b:List Int} (f:JQ b) (hl:b.length=64) {x:Int} (h0:0<=x) (h1:x<=4095) (i:Nat):BW (ofA b x) i=(BW b i||decide (x=(i:Int))):=by
 have e1:Int.tdiv x 64=x / 64:=Yq h0;have e2:Int.tmod x 64=x % 64:=ABP h0;obtain⟨n,rfl⟩:∃n:Nat,x=(n:Int):=⟨x.toNat,by omega⟩;have hs:Tv .u64 1 ((n:Int) % 64)=((2 ^ (n % 64):Nat):Int):=by
  unfold Tv;have d:min ((n:Int) % 64).toNat IntKind.u64.bits=n % 64:=by
   have:((n:Int) % 64).toNat=n % 64:=by omega
   rw[this];have:IntKind.u64.bits=64:=rfl;omega
  rw[d,Int.one_mul];have:(2:Int) ^ (n % 64)=((2 ^ (n % 64):Nat):Int):=by simp
  rw[this];refine Qv ?_;have a:(2:Nat) ^ (n % 64)<2 ^ 64:=Nat.pow_lt_pow_right (by decide) (AGu _ (by decide));exact a
 have hu:U64 (Tv .u64 1 ((n:Int) % 64)):=by
  rw[hs];have a:(2:Nat) ^ (n % 64)<2 ^ 64:=Nat.pow_lt_pow_right (by decide) (AGu _ (by decide));have e:(2:Nat) ^ 64=18446744073709551616:=by decide
  refine⟨ZX _,?_⟩;rw[e]at a;exact Do.2 a
 have hn:((n:Int) / 64).toNat=n / 64:=by omega
 unfold ofA BW;rw[e1,e2,hn];by_cases c:i / 64=n / 64
 .have g:n / 64<b.length:=by omega
  rw[c];have:(b.set (n / 64) (B7 .or .u64 (b.getD (n / 64) 0) (Tv .u64 1 ((n:Int) % 64)))).getD (n / 64) 0=B7 .or .u64 (b.getD (n / 64) 0) (Tv .u64 1 ((n:Int) % 64)):=by
   simp[AS,g]
  rw[this,A8F (BG f _) hu,hs];simp only[UQ,Nat.testBit_or,Nat.testBit_two_pow]
  congr 1
  rw[AFO];omega
 have:(b.set (n / 64) (B7 .or .u64 (b.getD (n / 64) 0) (Tv .u64 1 ((n:Int) % 64)))).getD (i / 64) 0=b.getD (i / 64) 0:=by
  simp[AS,ZS,Ne.symm c]
 rw[this];have:decide ((n:Int)=(i:Int))=false:=by
  rw[To];intro h;exact c (by omega)
 rw[this,Bool.or_false]
theorem A8H {b:List Int} (c:JQ b) (x:Int):JQ (ofA b x):=by
 intro y a;unfold ofA at a;rcases AAy a with h|h
 .exact c y h
 rw[h];have:=NI .u64 ((BitVec.ofInt IntKind.u64.bits (b.getD (x.tdiv 64).toNat 0) ||| BitVec.ofInt IntKind.u64.bits (Tv .u64 1 (x.tmod 64))).toNat:Int);rw[JH]at this;exact⟨this.1,by have:=this.2;show _<_;exact AG9 this (by decide)⟩
theorem A8I {l:List Int} (h:l.all okB=true) (i:Nat):BW (ofL l) i=decide ((i:Int)∈l)/\JQ (ofL l):=by
 have key:∀(l b:List Int),l.all okB=true->JQ b->b.length=64->BW (l.foldl ofA b) i=(BW b i||decide ((i:Int)∈l))/\JQ (l.foldl ofA b):=by
  intro l;induction l with
  | nil=>intro b _ a _;simp[a]
  | cons x l j =>
   intro b c a hl;rw[AAk,An]at c;have hx:=c.1;unfold okB at hx;rw[UL,Yl,To,To]at hx;obtain⟨d,e⟩:=j (ofA b x) c.2 (A8H a x) (by simp[ofA,hl]);rw[UN];refine⟨?_,e⟩;rw[d,A8G a hl (by omega) (by omega),Bool.or_assoc]
   congr 1
   rw[<-Bool.decide_or,AFO,By,eq_comm]
 have f:JQ (List.replicate 64 (0:Int)):=by
  intro y g;rw[(AG4.1 g).2];exact⟨by decide,by decide⟩
 have h1:=key l (List.replicate 64 0) h f (by simp);refine⟨?_,h1.2⟩;unfold ofL;rw[h1.1];have:BW (List.replicate 64 (0:Int)) i=false:=by
  unfold BW;have:(List.replicate 64 (0:Int)).getD (i / 64) 0=0:=by
   rw[AS,oF];split<;>rfl
  rw[this];simp
 rw[this,Bool.false_or]
theorem A4D {low all:List ByteArray} {n i:Nat}:((i:Int)∈PW low all n)↔i<n/\Af low (all.getD i ByteArray.empty)=true:=by
 unfold PW;rw[IF];constructor
 .rintro⟨j,a,e⟩;have:j=i:=by omega
  subst this;rw[AAh,Ue]at a;exact a
 rintro⟨h1,b⟩;exact⟨i,by rw[AAh,Ue];exact⟨h1,b⟩,rfl⟩
theorem A8J {low all:List ByteArray} {n:Nat} (hn:n<=4096):(PW low all n).all okB=true:=by
 rw[OR];intro x hx;unfold PW at hx;obtain⟨j,a,rfl⟩:=IF.1 hx;rw[AAh,Ue]at a;unfold okB;rw[UL,Yl,To,To];exact⟨by omega,by omega⟩
theorem Ek {d:List AL} {all:List ByteArray} (hl:all.length<=4096) (s:ByteArray) (i:Nat):(BW (Hc d all s) i=true↔i<all.length/\Af (Dy d s) (all.getD i ByteArray.empty)=true)/\JQ (Hc d all s)/\(Hc d all s).length<=64:=by
 have h1:=A8J (low:=Dy d s) (all:=all) hl;have b:=A8I h1 i;have a:Hc d all s=BP (ofL (PW (Dy d s) all all.length)):=by
  unfold Hc ofF;rw[Bq h1]
 refine⟨?_,?_,?_⟩
 .rw[a,PZ,b.1,DO,A4D]
 .rw[a];exact Pa b.2
 rw[a];unfold BP;have:=Qt (PW (Dy d s) all all.length);rw[OS];omega
theorem TR (d:List AL) {s t:ByteArray} (h:Ac s t=true):BL d s=BL d t:=by
 have key:∀(l:List AL) (k:Nat),Cv s k l=Cv t k l:=by
  intro l;induction l with
  | nil=>intro k;rfl
  | cons x l a =>
   intro k;simp only[Cv];have:Ac x.1 s=Ac x.1 t:=by grind [Ac,DN,FT]
   rw[this,a]
 exact key d 0
theorem Dh {α:Type} {l:List α} {d:α} {k:Nat} (h:k<l.length):l.getD k d∈l:=by grind
theorem Cw {α:Type} {l:List α} (d:α) {x:α} (h:x∈l):∃k,k<l.length/\l.getD k d=x:=by
 obtain⟨k,hk,e⟩:=ZT.1 h;exact⟨k,hk,by rw[AS,AT hk];exact e⟩
theorem Me {d:List AL}:∀ {r:List AL} {k:Nat},PR d k r=0->∀j,j<r.length->¬BL d (r.getD j d0).1<((k+j:Nat):Int)/\FB (r.getD j d0).1 false=true
 | [],_,_,j,a=>by simp at a
 | x :: r,k,h,j,a=>by
  simp only[PR]at h;split at h
  .cases h
  rename_i h1;split at h
  .cases h
  rename_i b;cases j with
  | zero=>exact⟨b,by simpa using h1⟩
  | succ j =>
   have:=Me h j (by simpa using a);have e:k+(j+1)=k+1+j:=by omega
   rw[e];exact this
theorem Qx (s:ByteArray):∀(l:List AL) (k j:Nat),j<l.length->Ac (l.getD j d0).1 s=true->Cv s k l<=((k+j:Nat):Int)
 | [],_,j,h,_=>by simp at h
 | x :: l,k,j,h,e=>by
  simp only[Cv];split
  .omega
  rename_i h1;cases j with
  | zero=>exact absurd e h1
  | succ j =>
   have:=Qx s l (k+1) j (by simpa using h) e;omega
theorem Wd {d:List AL} (h:Dw d=0) {j:Nat} (b:j<d.length):BL d (d.getD j d0).1=(j:Int):=by
 have h1:=(Me h j b).1;have a:=Qx (d.getD j d0).1 d 0 j b (Y1 _);rw[tO]at h1 a;have a:BL d (d.getD j d0).1<=(j:Int):=a;omega
theorem kH {d:List AL} (h:Dw d=0) {x y:AL} (hx:x∈d) (a:y∈d) (e:Ac x.1 y.1=true):x=y:=by
 obtain⟨i,hi,rfl⟩:=Cw d0 hx;obtain⟨j,b,rfl⟩:=Cw d0 a;grind [Wd,TR]
theorem p5 (d:List AL) (out:List ByteArray) (h:(IV d out).1=true):∃x∈d,x.1=(IV d out).2/\Af out x.1=false/\Jj x out=true:=by
 have key:∀(l:List AL) (s:Bool×ByteArray),(∀x∈l,x∈d)->(s.1=true->∃x∈d,x.1=s.2/\Af out x.1=false/\Jj x out=true)->(l.foldl (JO out) s).1=true ->
   ∃x∈d,x.1=(l.foldl (JO out) s).2/\Af out x.1=false/\Jj x out=true:=by
  intro l;induction l with
  | nil=>intro s _ hs h;exact hs h
  | cons y l a =>
   intro s hl hs h;rw[UN]at h ⊢;refine a _ (λx hx=>hl x (by simp[hx])) (λhp=>?_) h;unfold JO at hp ⊢;split
   .grind
   grind
 exact key d _ (λ_ h=>h) (λh=>by cases h) h
def PL (d:List AL) (o:List ByteArray):Prop:=∀j,j<o.length->∃x∈d,x.1=o.getD j ByteArray.empty/\Af (o.take j) x.1=false/\Jj x (o.take j)=true
theorem PL.snoc {d:List AL} {o:List ByteArray} (h:PL d o) {x:AL} (hx:x∈d) (h1:Af o x.1=false) (c:Jj x o=true):PL d (o++[x.1]):=by
 intro j e;by_cases a:j<o.length
 .obtain⟨y,f,e1,e2,b⟩:=h j a;grind
 grind
theorem We {d:List AL}:∀ {n:Nat} {o:List ByteArray},PL d o->PL d (JP d n o)
 | 0,_,h=>h
 | n+1,o,h=>by
  unfold JP;split
  .rename_i hp;obtain⟨x,hx,e,h1,a⟩:=p5 d o hp;rw[<-e];exact We (h.snoc hx h1 a)
  exact h
theorem aD (d:List AL):PL d (Bl d):=We λj a=>by simp at a
theorem PL.ok {d:List AL} {o:List ByteArray} (h:PL d o):gX d o:=by
 refine⟨λs hs=>?_,?_⟩
 .obtain⟨j,a,rfl⟩:=Cw ByteArray.empty hs;obtain⟨x,hx,e,-⟩:=h j a;rw[<-e];exact FU hx
 rw[UX];intro i j hi a c;obtain⟨x,hx,e,h1,-⟩:=h j a;have b:=Qs h1 o[i] (by rw[ABU];exact⟨i,by omega,rfl⟩);grind
theorem p6 {n:Nat} {l:List Nat} (h:l.Nodup) (hl:∀j∈l,j<n) (hn:n<=l.length) {k:Nat} (hk:k<n):k∈l:=by
 refine If λb=>?_;have:=EJ n (k :: l) (YT.2 ⟨b,h⟩) (λj a=>by
  rcases By.1 a with rfl|a
  .exact hk
  exact hl j a)
 simp at this;omega
theorem p7 {d:List AL} (hl:d.length<=(Bl d).length) {x:AL} (hx:x∈d):∃s∈Bl d,Ac s x.1=true:=by
 have a:=(aD d).ok;have h1:=LK d a;have h0:=FU hx;have h:=Dl d x.1;have b:=p6 (n:=d.length) h1 (λj c=>by
  obtain⟨s,hs,rfl⟩:=IF.1 c;have h1:=a.decl s hs;rcases Dl d s with g|⟨_,g,_⟩<;>omega) (by simpa using hl) (k:=(BL d x.1).toNat) (by omega)
 obtain⟨s,hs,e⟩:=IF.1 b;refine⟨s,hs,?_⟩;rcases Dl d s with g|⟨_,_,f⟩
 .have:=a.decl s hs;omega
 grind [DN,FT]
def IZ (d:List AL) (s:ByteArray):Nat:=(Bl d).findIdx λx=>Ac x s
theorem Pb (d:List AL) {s t:ByteArray} (h:Ac s t=true):IZ d s=IZ d t:=by grind [IZ,Ac,DN,FT]
theorem Pc {d:List AL} (hn:Dw d=0) (hl:d.length<=(Bl d).length) {x:AL} (hx:x∈d) {s:ByteArray} (hs:Af x.2.1 s=true):IZ d s<IZ d x.1:=by
 obtain⟨t,m,e⟩:=p7 hl hx;have b:IZ d x.1<(Bl d).length:=List.findIdx_lt_length_of_exists ⟨t,m,e⟩;have heq:Ac ((Bl d)[IZ d x.1]) x.1=true:=List.findIdx_getElem (w:=b);obtain⟨y,n,e1,-,g⟩:=aD d (IZ d x.1) b;rw[AS,AT b]at e1;have e1:y.1=(Bl d)[IZ d x.1]:=e1;rw[<-e1]at heq;have o:=kH hn n hx heq;subst o;obtain⟨u,hu,f⟩:=Ua.1 hs;have h:Af ((Bl d).take (IZ d y.1)) u=true:=OR.1 g u hu;obtain⟨v,c,ev⟩:=Ua.1 h;rw[ABU]at c;obtain⟨i,hi,rfl⟩:=c;have l:i<IZ d y.1:=by omega
 refine AFZ ?_ l;refine If λk=>?_;have a:=List.not_of_lt_findIdx (p:=λx=>Ac x s) (xs:=Bl d) (i:=i) (by unfold IZ at k;omega);have j:Ac ((Bl d)[i]) s=true:=DN ev f;try simp only at a
 rw[j]at a;exact absurd a (by simp)
def ZC (d:List AL) (s x:ByteArray):Prop:=Ac s x=true\/IZ d s<IZ d x
theorem A1L {d:List AL} (hn:Dw d=0) (hl:d.length<=(Bl d).length) {s c:ByteArray} (b:ZC d s c) {o:List ByteArray} (e:∀x∈o,ZC d s x) {x:AL} (hx:x∈d):∀y∈Fs c o x,ZC d s y:=by
 intro y a;unfold Fs at a;split at a
 .rename_i h;rw[An]at h;rcases IN.1 a with a|a
  .exact e y a
  have:y=x.1:=by simpa using a
  subst this;have h1:=Pc hn hl hx h.1;right;rcases b with b|b
  .rw[Pb d b];exact h1
  omega
 exact e y a
theorem Wf {d:List AL} (hn:Dw d=0) (hl:d.length<=(Bl d).length) {s c:ByteArray} (b:ZC d s c):∀ {l:List AL} {o:List ByteArray},(∀x∈l,x∈d)->(∀x∈o,ZC d s x)->∀y∈l.foldl (Fs c) o,ZC d s y
 | [],_,_,a=>a
 | x :: l,o,hx,a=>by
  rw[UN];exact Wf hn hl b (λy e=>hx y (by simp[e])) (A1L hn hl b a (hx x (by simp)))
theorem TS {d:List AL} (hn:Dw d=0) (hl:d.length<=(Bl d).length) {s:ByteArray}:∀ {n i:Nat} {o:List ByteArray},(∀x∈o,ZC d s x)->∀y∈Dx d n i o,ZC d s y
 | 0,_,_,a=>a
 | n+1,i,o,a=>by
  unfold Dx;split
  .rename_i hi;exact TS hn hl (Wf hn hl (a _ (Dh hi)) (λ_ h=>h) a)
  exact a
theorem A4E {c:ByteArray} {o:List ByteArray} {x:AL} {y:ByteArray} (h:y∈o):y∈Fs c o x:=by grind [Fs]
theorem Nf {c:ByteArray} {y:ByteArray}:∀ {l:List AL} {o:List ByteArray},y∈o->y∈l.foldl (Fs c) o
 | [],_,h=>h
 | x :: l,o,h=>by rw[UN];exact Nf (A4E h)
theorem Pd {d:List AL} {y:ByteArray}:∀ {n i:Nat} {o:List ByteArray},y∈o->y∈Dx d n i o
 | 0,_,_,h=>h
 | n+1,i,o,h=>by
  unfold Dx;split
  .exact Pd (Nf h)
  exact h
theorem Qy {l:List ByteArray} {s x:ByteArray} (h:x∈Dv l s):x∈l\/x=s:=by grind [Dv]
theorem aE {l:List ByteArray} {s x:ByteArray} (h:x∈l):x∈Dv l s:=by
 unfold Dv;split
 .exact h
 have a:x∈l.take (Yz l s)\/x∈l.drop (Yz l s):=IN.1 (by rw[AAT];exact h);grind
theorem kI {l:List ByteArray} {s:ByteArray}:Af (Dv l s) s=true:=by
 unfold Dv;grind [JN,Yz,Ac,Af,Y1]
theorem Ng {l:List ByteArray} {s:ByteArray} (h:s∈l):Af l s=true:=Ua.2 ⟨s,h,Y1 s⟩
theorem Nh {l m:List ByteArray} {s:ByteArray} (hs:∀x∈l,x∈m) (h:Af l s=true):Af m s=true:=by
 obtain⟨x,hx,e⟩:=Ua.1 h;exact Ua.2 ⟨x,hs x hx,e⟩
theorem kJ:∀ {l o:List ByteArray} {x:ByteArray},x∈l.foldl Dv o->x∈o\/x∈l
 | [],_,_,h=>.inl h
 | y :: l,o,x,h=>by
  rw[UN]at h;rcases kJ h with h|h
  .grind [Qy]
  grind
theorem aF:∀ {l o:List ByteArray} {x:ByteArray},x∈o->x∈l.foldl Dv o
 | [],_,_,h=>h
 | y :: l,o,x,h=>by rw[UN];exact aF (aE h)
theorem Wg:∀ {l o:List ByteArray} {x:ByteArray},x∈l->Af (l.foldl Dv o) x=true
 | [],_,_,h=>by cases h
 | y :: l,o,x,h=>by
  rw[UN];rcases By.1 h with rfl|h
  .grind [Nh,aF,kI]
  exact Wg h
theorem Pe {d:List AL} {s:ByteArray} (h:0<=BL d s):Af (Dy d s) s=true:=by
 unfold Dy;rw[As (by omega)];exact Wg (Pd (by simp))
theorem Wh {d:List AL} (hn:Dw d=0) (hl:d.length<=(Bl d).length) {s x:ByteArray} (h:Af (Dy d s) x=true):ZC d s x:=by
 obtain⟨y,a,e⟩:=Ua.1 h;have b:ZC d s y:=by
  unfold Dy at a;split at a
  .cases a
  rcases kJ a with a|a
  .cases a
  refine TS hn hl (λz c=>?_) y a;have:z=s:=by simpa using c
  rw[this];exact .inl (Y1 s)
 rcases b with b|b
 .exact .inl (DN b e)
 rw[Pb d e]at b;exact .inr b
theorem Gj {d:List AL} {s:ByteArray} (h:s∈AX d):∃x∈d,x.1=s:=by
 have key:∀(l:List AL) (o:List ByteArray),s∈l.foldl (λo x=>Dv o x.1) o->s∈o\/∃x∈l,x.1=s:=by
  intro l;induction l with
  | nil=>intro o h;exact .inl h
  | cons x l a =>
   intro o h;rw[UN]at h;rcases a _ h with h|⟨y,b,e⟩
   .grind [Qy]
   grind
 rcases key d [] h with h|h
 .cases h
 exact h
theorem Wi {d:List AL} {x:AL} (h:x∈d):Af (AX d) x.1=true:=by
 have b:∀(l:List AL) (o:List ByteArray),∀y∈o,y∈l.foldl (λo x=>Dv o x.1) o:=by
  intro l;induction l with
  | nil=>intro o y h;exact h
  | cons x l a=>intro o y h;rw[UN];exact a _ y (aE h)
 have key:∀(l:List AL) (o:List ByteArray),x∈l->Af (l.foldl (λo x=>Dv o x.1) o) x.1=true:=by
  intro l;induction l with
  | nil=>intro o h;cases h
  | cons y l a =>
   intro o h;rw[UN];rcases By.1 h with rfl|h
   .grind [Nh,kI]
   exact a _ h
 exact key d [] h
theorem kK {d:List AL} (hn:Dw d=0) (hl:d.length<=(Bl d).length) (p:d.length<=256) {i j:Nat} (hi:i<(AX d).length) (c:j<(AX d).length)
  (h:F7 (Hc d (AX d) ((AX d).getD i ByteArray.empty)) (Hc d (AX d) ((AX d).getD j ByteArray.empty))=true):Ac ((AX d).getD i ByteArray.empty) ((AX d).getD j ByteArray.empty)=true:=by
 have m:=FQ d d.length;rw[UO]at m;have a:(AX d).length<=4096:=by omega
 generalize hs:(AX d).getD i ByteArray.empty=s at *;generalize b:(AX d).getD j ByteArray.empty=t at *;have n:0<=BL d s:=by
  obtain⟨x,hx,e⟩:=Gj (s:=s) (by rw[<-hs];exact Dh hi);rw[<-e];exact FU hx
 have o:0<=BL d t:=by
  obtain⟨x,hx,e⟩:=Gj (s:=t) (by rw[<-b];exact Dh c);rw[<-e];exact FU hx
 obtain⟨c1,f,-⟩:=Ek (d:=d) a s i;obtain⟨c2,g,-⟩:=Ek (d:=d) a t i;obtain⟨k,-,-⟩:=Ek (d:=d) a s j;obtain⟨l,-,-⟩:=Ek (d:=d) a t j;unfold F7 at h;rw[An]at h;have b1:=Wh hn hl (c2.1 (Md f g h.1 (c1.2 ⟨hi,by rw[hs];exact Pe n⟩))).2;have b2:=Wh hn hl (k.1 (Md g f h.2 (l.2 ⟨c,by rw[b];exact Pe o⟩))).2;rw[hs]at b1;rw[b]at b2;rcases b1 with b1|b1
 .exact FT b1
 rcases b2 with b2|b2
 .exact b2
 omega
section
attribute [local go_sem] dU A4k Mb cs0 cs1
def nmG (d:List AL) (all:List ByteArray) (codes:List (List Int)) (b:List Int):Nat->Nat->List ByteArray->ByteArray ⊕ List ByteArray
 | 0,_,l=>.inr l
 | n+1,i,l=>if F7 (codes.getD i []) b=true then .inl (all.getD i ByteArray.empty) else nmG d all codes b n (i+1) (if WT b (i:Int)=true then l++[all.getD i ByteArray.empty] else l)
def kL (l:List ByteArray) (s:ByteArray) (i:Nat):ByteArray:=(if 0<(i:Int) then s++ByteArray.mk #[38] else s)++l.getD i ByteArray.empty
def A4F (l:List ByteArray):ByteArray:=(List.range l.length).foldl (kL l) ByteArray.empty
def Ia (d:List AL) (all:List ByteArray) (codes:List (List Int)) (b:List Int):ByteArray :=
 match nmG d all codes b all.length 0 [] with
 | .inl s=>s
 | .inr l=>A4F (CF d l)
theorem OY {d:List AL} {x:ByteArray}:∀ {l o:List ByteArray},x∈l.foldl (Lk d) o->x∈o\/x∈l
 | [],_,h=>.inl h
 | y :: l,o,h=>by
  rw[UN]at h;rcases OY h with h|h
  .unfold Lk at h;split at h
   .rcases Qy h with h|h
    .exact .inl h
    exact .inr (by simp[h])
   exact .inl h
  exact .inr (by simp[h])
theorem eC {d:List AL} {l:List ByteArray} {x:ByteArray} (h:x∈CF d l):x∈l:=by
 unfold CF UF at h;obtain⟨i,hi,rfl⟩:=IF.1 h;rw[AAh,Ue]at hi;rcases OY (Dh (d:=ByteArray.empty) hi.1) with h|h
 .cases h
 exact h
theorem eD (d:List AL) (l:List ByteArray):(CF d l).length<=l.length:=UR (kA _ _ _) (Jk d l)
theorem p8 {l:List ByteArray} (h:∀s∈l,s.size<=32) (k:Nat):(l.getD k ByteArray.empty).size<=32:=by
 rw[AS];cases hh:l[k]? with
 | none=>simp
 | some x=>exact h x (Yk hh)
def Wj (l:List ByteArray) (n:Nat):ByteArray:=(List.range n).foldl (kL l) ByteArray.empty
theorem Wk (l:List ByteArray) (n:Nat):Wj l (n+1)=kL l (Wj l n) n:=by
 unfold Wj;rw[Yf,AAp];rfl
theorem Wl {l:List ByteArray} (h:∀s∈l,s.size<=32):∀n,(Wj l n).size<=33*n
 | 0=>by simp[Wj]
 | n+1=>by
  have h1:=Wl h n;have a:=p8 h n;rw[Wk];unfold kL;split
  .rw[ABS,ABS];have:(ByteArray.mk #[38]).size=1:=rfl;omega
  rw[ABS];omega
def eE:AZ:={ ins:=[FA,GP,UD,BN],pre:=λ(d,all,codes,b,_)=>WV d/\List.length d<=256/\List.length all<=256/\List.length codes=List.length all/\(∀s∈(all:List ByteArray),s.size<=32)/\(∀x∈(codes:List (List Int)),x.length<=64)/\List.length b<=64,out:=λ(d,all,codes,b,_)=>[.p T9 (Ia d all codes b)] }
theorem A1M:Ad Tryz.prog 164 eE:=by
 refine fK [0,1,2,3,8,9,10,11,12,16,24,31,45,49] Tryz.func164 Tryz.ntmps164 (AF A1z (AF A4l (AF WY AH))) ?_;rintro w0 O0 ⟨d,all,codes,b,u⟩ e-⟨hs,z,t,q,C,y,w⟩;have t:all.length<=256:=t;have q:codes.length=all.length:=q;simp only[eE,AM];repeat'(first|exact trivial|apply eS rfl|refine rX e ?_ ?_)
 refine AK (ι:={x:Nat×List ByteArray//x.1<=all.length/\x.2.length<=x.1/\(∀s∈x.2,s.size<=32)/\nmG d all codes b (all.length-x.1) x.1 x.2=nmG d all codes b all.length 0 []}) (λx=>⟨[(0,.p FA d),(1,.p GP all),(2,.p UD codes),(3,.p BN b),(9,.sr 38 T9 0 x.1.2.length),(10,.p (.int .i64) (x.1.1:Int))],[(38,.arr 9 T9 x.1.2)]⟩) (λx=>all.length-x.1.1) ⟨(0,[]),by simp,by simp,by simp,rfl⟩ (eW [(38,.nil)]) (λx=>?_)
 obtain⟨⟨i,l⟩,hi,B,o,f⟩:=x;simp only at hi B o f;have r:i<all.length->nmG d all codes b (all.length-i) i l=if F7 (codes.getD i []) b=true then .inl (all.getD i ByteArray.empty) else nmG d all codes b (all.length-(i+1)) (i+1) (if WT b (i:Int)=true then l++[all.getD i ByteArray.empty] else l):=by
  intro h;rw[show all.length-i=(all.length-(i+1))+1 by omega];rfl
 simp only;repeat'(first|exact trivial|apply eS rfl|apply AB|refine rX e ?_ ?_|refine rC ?_ ?_<;>intro a<;>try(cases a;done))
 .exact⟨by rw[q];exact a,UR (Mc y i) (by decide),UR w (by decide)⟩
 .assumption
 .have c:i<all.length:=by exact eV
  have j:Ia d all codes b=all.getD i ByteArray.empty:=by
   unfold Ia;rw[<-f,r c,Bq a]
  exact fI e [.tmp 8] (by rw[j];exact eR)
 .have c:i<all.length:=by exact eV
  exact⟨Do.2 c,by simp only[AQ];omega⟩
 .exact eV
 .have c:i<all.length:=by exact eV
  have hn:=r c;rw[As (by rw[‹F7 _ _=false›];simp),Bq a]at hn;refine⟨⟨(i+1,l++[all.getD i ByteArray.empty]),by simp only;omega,by simp only[BY,IS];omega,?_,hn.symm.trans f⟩,by simp only;omega,AD [(38,.nm 38)] rfl rfl ?_ ?_⟩
  .intro s hs;rcases IN.1 hs with hs|hs
   .exact o s hs
   have:s=all.getD i ByteArray.empty:=by simpa using hs
   rw[this];exact p8 C i
  .exact eN
  exact eN
 .exact eV
 .have c:i<all.length:=by exact eV
  have hn:=r c;rw[As (by rw[‹F7 _ _=false›];simp),As (by rw[a];simp)]at hn;exact⟨⟨(i+1,l),by simp only;omega,by simp only;omega,o,hn.symm.trans f⟩,by simp only;omega,eW [(38,.nm 38)]⟩
 have j:Ia d all codes b=A4F (CF d l):=by
  unfold Ia;rw[<-f];have:all.length-i=0:=by exact eV
  rw[this];rfl
 refine Fl [38] ?_;repeat'(first|exact trivial|apply eS rfl|refine rX e ?_ ?_)
 .exact⟨hs,z,by omega⟩
 have v:∀s∈CF d l,s.size<=32:=λs h=>o s (eC h);have E:=eD d l;have A:A4F (CF d l)=Wj (CF d l) (CF d l).length:=rfl;rw[A]at j;generalize CF d l=m at *;refine AK (ι:={k:Nat//k<=m.length}) (λk=>⟨[(9,.p GP m),(11,.p T9 (Wj m k.1)),(12,.p (.int .i64) (k.1:Int))],[]⟩) (λk=>m.length-k.1) ⟨0,Is _⟩ (AD [] rfl rfl ?_ ?_) (λk=>?_)
 .exact eN
 .refine eM ?_;rfl
 obtain⟨k,hk⟩:=k;have hk:k<=m.length:=hk;have D:=Wl v k;have n:=Wk m k;have F:=p8 v k;unfold kL at n;simp only;repeat'(first|exact trivial|apply eS rfl|apply AB|refine rX e ?_ ?_|refine rC ?_ ?_<;>intro a<;>try(cases a;done))
 .have h1:(ByteArray.mk #[38]).size=1:=rfl;rw[h1];simp only[AQ];exact eV
 .refine⟨by assumption,?_⟩;have h1:(ByteArray.mk #[38]).size=1:=rfl;rw[ABS,h1];simp only[AQ];exact eV
 .exact eV
 .have g:k<m.length:=by exact eV
  rw[Bq a]at n;refine⟨⟨k+1,g⟩,by simp only;omega,AD [] rfl rfl ?_ ?_⟩
  .exact eN
  simp only[n];exact eN
 .refine⟨by assumption,?_⟩;simp only[AQ];exact eV
 .exact eV
 .have g:k<m.length:=by exact eV
  rw[As (AAm.2 a)]at n;refine⟨⟨k+1,g⟩,by simp only;omega,AD [] rfl rfl ?_ ?_⟩
  .exact eN
  simp only[n];exact eN
 have g:k=m.length:=by exact eV
 rw[<-g]at j;exact fI e [.tmp 8] (by rw[j];exact eR)
end
section
attribute [local go_sem] Ux Qr A4z d9 eE d8
def Ff (x:AU) (out:List AU):Nat->Nat
 | 0=>0
 | n+1=>if F8 x (out.getD n c0)=true then Ff x out n else n+1
def eF (out:List AU) (x:AU):List AU:=out.take (Ff x out out.length)++[x]++out.drop (Ff x out out.length)
def Ai (d:List AL):List (List Int):=(AX d).map λs=>Hc d (AX d) s
def Gk (d:List AL) (all:List ByteArray) (codes:List (List Int)) (out:List AU) (b:List Int):List AU:=eF out (Ia d all codes b,b)
def SE (d:List AL):List AU->List Int->List AU:=Gk d (AX d) (Ai d)
theorem Pf (d:List AL) (all:List ByteArray) (codes:List (List Int)):∀(l:List (List Int)) (o:List AU),(l.foldl (Gk d all codes) o).length=o.length+l.length
 | [],o=>by simp
 | b :: l,o=>by
  rw[UN,Pf d all codes l];unfold Gk eF;simp only[BY,OS,YY,No,Yo];omega
theorem Wm {d:List AL} {all:List ByteArray} {codes:List (List Int)}:∀ {l:List (List Int)} {o:List AU},(∀c∈l,c.length<=64)->(∀y∈o,y.2.length<=64)->∀y∈l.foldl (Gk d all codes) o,y.2.length<=64
 | [],_,_,e=>e
 | b :: l,o,hl,e=>by
  rw[UN];refine Wm (λc f=>hl c (by simp[f])) (λy a=>?_);unfold Gk eF at a;simp only[IN,UM]at a;rcases a with (a|a)|a
  .exact e y (Yb a)
  .rw[a];exact hl b (by simp)
  exact e y (AB4 a)
theorem kM (x:AU) (out:List AU):∀n,Ff x out n<=n
 | 0=>NO _
 | n+1=>by
  unfold Ff;split
  .exact Nat.le_succ_of_le (kM x out n)
  exact NO _
def A8 (d:List AL):List AU:=(BC (Ai d)).foldl (SE d) []
def CC (d:List AL):List AU×Int :=
 if BT d≠0 then ([],BT d) else if 256<(BC (Ai d)).length then ([],7) else (A8 d,0)
theorem p9 {s:ByteArray} {b:Bool} (h:FB s b=true):s.size<=32:=by
 unfold FB at h;rw[An]at h;have h1:=h.1;unfold R4 at h1;simp only[UL,Yl,To]at h1;have:=h1.1.1.2;omega
theorem kN {d:List AL} (hn:Dw d=0):∀s∈AX d,s.size<=32:=by
 intro s hs;obtain⟨x,hx,rfl⟩:=Gj hs;obtain⟨j,a,rfl⟩:=Cw d0 hx;exact p9 (Me hn j a).2
def LL (d:List AL) (n:Nat):List (List Int):=((AX d).take n).map λs=>Hc d (AX d) s
theorem qA {d:List AL} {n:Nat} (h:n<=(AX d).length):(LL d n).length=n:=by simp[LL,h]
theorem kO {d:List AL} {n:Nat} (h:n<(AX d).length):LL d (n+1)=LL d n++[Hc d (AX d) ((AX d).getD n ByteArray.empty)]:=by
 unfold LL;rw[Av _ ByteArray.empty h,UZ];rfl
theorem qB (d:List AL):LL d (AX d).length=Ai d:=by simp[LL,Ai]
theorem qC (d:List AL):(Ai d).length=(AX d).length:=by simp[Ai]
theorem Pg {d:List AL} (h:d.length<=256):∀c∈Ai d,c.length<=64:=by
 intro c a;unfold Ai at a;obtain⟨s,-,rfl⟩:=IF.1 a;have b:=FQ d d.length;rw[UO]at b;exact(Ek (d:=d) (all:=AX d) (by omega) s 0).2.2
theorem kP {i:Nat}:∀ {n k:Nat} {l:List (List Int)},(∀c∈l,c.length<=64)->∀c∈HR i n k l,c.length<=64
 | 0,_,_,h=>h
 | n+1,k,l,h=>by
  unfold HR;split
  .exact kP (kE h i k)
  exact h
theorem Qz:∀ {n i:Nat} {l:List (List Int)},(∀c∈l,c.length<=64)->∀c∈Jl n i l,c.length<=64
 | 0,_,_,h=>h
 | n+1,i,l,h=>by
  unfold Jl;split
  .exact Qz (kP h)
  exact h
theorem kQ {out:List AU} {x y:AU}:y∈eF out x↔y=x\/y∈out:=by
 unfold eF;rw[IN,IN,UM];have h:=IN (a:=y) (s:=out.take (Ff x out out.length)) (t:=out.drop (Ff x out out.length));rw[AAT]at h;rw[h];constructor
 .rintro ((h|h)|h)
  .exact .inr (.inl h)
  .exact .inl h
  exact .inr (.inr h)
 rintro (h|h|h)
 .exact .inl (.inr h)
 .exact .inl (.inl h)
 exact .inr h
def SF:AZ:={ ins:=[FA],pre:=λ_=>True,out:=λ(d,_)=>[.p KF (CC d).1,.p Fm (CC d).2] }
theorem Q0:Ad Tryz.prog 118 SF:=by
 refine fK [0,2,3,4,5,6,7,8,9,10,11,12,13,17,24,41,45,73] Tryz.func118 Tryz.ntmps118 (AF A1F (AF Z4 (AF A8E (AF A1K (AF A1M (AF A1I AH)))))) ?_;rintro w0 O0 ⟨d,u⟩ g - -;simp only[SF,AM];repeat'(first|exact trivial|apply eS rfl|refine rX g ?_ ?_|refine rC ?_ ?_<;>intro a<;>try(cases a;done))
 .have h1:CC d=([],BT d):=by unfold CC;rw[Bq a]
  exact fI g [.tmp 2,.tmp 3] (by rw[h1];exact eR)
 .have i:BT d=0:=by simpa using a
  obtain⟨-,D,-⟩:=BF i;exact UR D (by decide)
 have i:BT d=0:=by simpa using a
 obtain⟨L,s,-,hn,-⟩:=BF i;have E:=FQ d d.length;rw[UO]at E;have M:=kN hn;refine AK (ι:={n:Nat//n<=(AX d).length}) (λn=>⟨[(0,.p FA d),(5,.p GP (AX d)),(6,.sr 36 BN 0 (LL d n.1).length),(7,.p (.int .i64) (n.1:Int))],[(36,.arr 140 BN (LL d n.1))]⟩) (λn=>(AX d).length-n.1) ⟨0,Is _⟩ (AD [(36,.nil)] rfl rfl ?_ ?_) (λn=>?_)
 .refine eM ?_;rfl
 .refine eM ?_;rfl
 obtain⟨n,H⟩:=n;have P:=qA H;have hs:=λh=>kO (d:=d) (n:=n) h;simp only;repeat'(first|exact trivial|apply eS rfl|apply AB|refine rX g ?_ ?_|refine rC ?_ ?_<;>intro a<;>try(cases a;done))
 .refine⟨a,⟨s,by dsimp only[Ty.den]at *;omega⟩,?_⟩;simp only[AQ];dsimp only[Ty.den]at *;omega
 .exact eV
 .have w:n<(AX d).length:=by exact eV
  have e:=hs w;refine⟨⟨n+1,by omega⟩,by simp only;omega,AD [(36,.nm 36)] rfl rfl ?_ ?_⟩
  .simp only[e];exact eN
  simp only[e];exact eN
 have w:n=(AX d).length:=by exact eV
 subst w;rw[qB];have G:=qC d;have x:=Pg s;have t:∀c∈BC (Ai d),c.length<=64:=Qz x;refine Fl [36] ?_;repeat'(first|exact trivial|apply eS rfl|refine rX g ?_ ?_|refine rC ?_ ?_<;>intro a<;>try(cases a;done))
 .exact⟨by omega,x⟩
 .have h1:CC d=([],7):=by
   unfold CC;rw[As (by rw[i];simp),Bq (by omega)]
  exact fI g [.tmp 2,.tmp 3] (by rw[h1];exact eR)
 have C:CC d=((BC (Ai d)).foldl (Gk d (AX d) (Ai d)) [],0):=by
  unfold CC;rw[As (by rw[i];simp),As (by omega)];rfl
 generalize BC (Ai d)=f at *;generalize Ai d=codes at *;generalize AX d=all at *;refine AK (ι:={k:Nat//k<=f.length}) (λk=>⟨[(0,.p FA d),(5,.p GP all),(6,.p UD codes),(8,.p UD f),(9,.sr 9 dS 0 ((f.take k.1).foldl (Gk d all codes) []).length),(10,.p (.int .i64) (k.1:Int))],[(9,.arr 152 dS ((f.take k.1).foldl (Gk d all codes) []))]⟩) (λk=>f.length-k.1) ⟨0,Is _⟩ (AD [(9,.nil)] rfl rfl ?_ ?_) (λk=>?_)
 .refine eM ?_;rfl
 .refine eM ?_;rfl
 obtain⟨k,hk⟩:=k;have B:=Pf d all codes (f.take k) [];have N:(f.take k).length=k:=by rw[OS];exact AAS hk
 have I:=Wm (d:=d) (all:=all) (codes:=codes) (l:=f.take k) (o:=[]) (λc g=>t c (Yb g)) (by simp);have K:=λh:k<f.length=>Ey (Gk d all codes) f [] [] h;rw[N]at B;simp only[Yo,tO]at B;generalize A:(f.take k).foldl (Gk d all codes) []=out at *;simp only;repeat'(first|exact trivial|apply eS rfl|refine rX g ?_ ?_|refine rC ?_ ?_<;>intro a<;>try(cases a;done))
 .exact⟨a,⟨L,s,by omega,G,M,x,Mc t k⟩,a⟩
 .have v:k<f.length:=by exact eV
  have e:=K v;have F:=Mc t k;generalize f.getD k []=b at *;unfold Gk at e;generalize Ia d all codes b=nm at *;refine AK (ι:={q:Nat//q<=out.length/\Ff (nm,b) out q=Ff (nm,b) out out.length}) (λq=>⟨[(0,.p FA d),(5,.p GP all),(6,.p UD codes),(8,.p UD f),(9,.sr 9 dS 0 out.length),(10,.p (.int .i64) (k:Int)),(11,.bp 11 [] 0),(12,.p (.int .i64) (q.1:Int))],[(9,.arr 152 dS out),(11,.box 152 true [.p T9 nm,.p BN b])]⟩) (λq=>q.1) ⟨out.length,NO _,rfl⟩ (eW [(9,.nm 9),(11,.nm 11)]) (λq=>?_)
  obtain⟨q,j,z⟩:=q;have j:q<=out.length:=j;simp only;repeat'(first|exact trivial|apply eS rfl|apply AB|refine rX g ?_ ?_|refine rC ?_ ?_<;>intro a<;>try(cases a;done))
  .refine⟨λh=>by omega,λh=>by exact eV,λh=>⟨UR F (by decide),UR (I _ (AE out c0 (k:=((q:Int)-1).toNat) (by omega))) (by decide)⟩⟩
  .omega
  .obtain⟨O,y⟩:=a;obtain⟨q,rfl⟩:∃r,q=r+1:=⟨q-1,by omega⟩;have m:((q+1:Nat):Int)-1=(q:Int):=by omega
   refine⟨⟨q,by omega,?_⟩,Nat.lt_succ_self q,AD [(9,.nm 9),(11,.nm 11)] rfl rfl ?_ ?_⟩
   .rw[<-z];rw[m,UQ]at y;show _=if F8 (nm,b) (out.getD q c0)=true then Ff (nm,b) out q else q+1
    rw[Bq y]
   .exact eN
   refine eM ?_;show (q:Int)+1-1=q;omega
  .refine⟨US.2 j,?_⟩;rw[OS];simp only[AQ];omega
  .rw[OS];simp only[AQ];omega
  .refine⟨US.2 j,?_⟩;rw[OS,YY];simp only[AQ];omega
  .omega
  have J:Ff (nm,b) out q=q:=by
   cases q with
   | zero=>rfl
   | succ q =>
    have m:((q+1:Nat):Int)-1=(q:Int):=by omega
    have:=a (by omega);rw[m,UQ]at this;show (if F8 (nm,b) (out.getD q c0)=true then Ff (nm,b) out q else q+1)=q+1;rw[As (by rw[this];simp)]
  unfold eF at e;rw[<-z,J]at e;refine⟨⟨k+1,by omega⟩,by simp only;omega,AD [(9,.nm 80)] rfl rfl ?_ ?_⟩
  .refine eM ?_;exact e.symm
  refine eM ?_;have e2:=Yp List.length e;rw[BY,BY]at e2;exact e2.symm
 have v:k=f.length:=by exact eV
 rw[v,UO]at A;rw[A]at C;refine Fl [9] ?_;exact fI g [.tmp 2,.tmp 3] (by rw[C];exact eR)
end
theorem aG {d:List AL}:∀ {l:List (List Int)} {o:List AU} {y:AU},y∈l.foldl (SE d) o↔y∈o\/∃b∈l,y=(Ia d (AX d) (Ai d) b,b)
 | [],o,y=>by simp
 | b :: l,o,y=>by
  rw[UN,aG];unfold SE Gk;rw[kQ];simp only[By];constructor
  .rintro ((h|h)|⟨c,a,e⟩)
   .exact .inr ⟨b,.inl rfl,h⟩
   .exact .inl h
   exact .inr ⟨c,.inr a,e⟩
  rintro (h|⟨c,rfl|a,e⟩)
  .exact .inl (.inr h)
  .exact .inl (.inl e)
  exact .inr ⟨c,a,e⟩
theorem El {d:List AL} {y:AU}:y∈A8 d↔∃b∈BC (Ai d),y=(Ia d (AX d) (Ai d) b,b):=by
 unfold A8;rw[aG];simp
theorem Ib (d:List AL):(A8 d).length=(BC (Ai d)).length:=by
 have h:=Pf d (AX d) (Ai d) (BC (Ai d)) [];rw[Yo,tO]at h;exact h
theorem A4G {l:List (List Int)} {i k:Nat} {c:List Int} (h:c∈l):c∈HQ l i k:=by
 unfold HQ;split
 .exact IN.2 (.inl h)
 exact h
theorem kR {i:Nat} {c:List Int}:∀ {n k:Nat} {l:List (List Int)},c∈l->c∈HR i n k l
 | 0,_,_,h=>h
 | n+1,k,l,h=>by
  unfold HR;split
  .exact kR (A4G h)
  exact h
theorem kS {c:List Int}:∀ {n i:Nat} {l:List (List Int)},c∈l->c∈Jl n i l
 | 0,_,_,h=>h
 | n+1,i,l,h=>by
  unfold Jl;split
  .exact kS (kR h)
  exact h
theorem TT (d:List AL) {i:Nat} (h:i<(AX d).length):(Ai d).getD i []=Hc d (AX d) ((AX d).getD i ByteArray.empty):=by
 unfold Ai;simp[AS,h]
theorem A01 {d:List AL} (hn:Dw d=0) (hl:d.length<=(Bl d).length) (c:d.length<=256) {j:Nat} (b:j<(AX d).length):∀(m i:Nat) (l:List ByteArray),i+m=(AX d).length->i<=j ->
  ∃s,nmG d (AX d) (Ai d) ((Ai d).getD j []) m i l=.inl s/\Ac s ((AX d).getD j ByteArray.empty)=true
 | 0,i,l,h,f=>by omega
 | m+1,i,l,h,f=>by
  unfold nmG;split
  .rename_i a;refine⟨_,rfl,?_⟩;rw[TT d (by omega),TT d b]at a;exact kK hn hl c (by omega) b a
  rename_i a;have g:i≠j:=by
   intro e;subst e;exact a (kG _)
  exact A01 hn hl c b m (i+1) _ (by omega) (by omega)
theorem A02 (s:ByteArray):∀(l:List AU) (k:Nat),SB s k l<((k+l.length:Nat):Int)
 | [],k=>by simp only[SB];omega
 | x :: l,k=>by
  simp only[SB];split
  .simp only[No];omega
  have:=A02 s l (k+1);simp only[No];omega
theorem A03 (s:ByteArray):∀(l:List AU) (k:Nat) (x:AU),x∈l->Ac x.1 s=true->0<=SB s k l
 | [],_,_,h,_=>by cases h
 | y :: l,k,x,h,e=>by
  simp only[SB];split
  .omega
  rename_i a;rcases By.1 h with rfl|h
  .exact absurd e a
  exact A03 s l (k+1) x h e
theorem qD (l:List AU) (s:ByteArray):Dc l s<(l.length:Int):=by
 have:=A02 s l 0;rw[tO]at this;exact this
theorem TV {d:List AL} (h:BT d=0) {s:ByteArray} (hs:Af (AX d) s=true):0<=Dc (A8 d) s:=by
 obtain⟨-,b,-,hn,hl⟩:=BF h;obtain⟨t,f,e⟩:=Ua.1 hs;obtain⟨j,c,rfl⟩:=Cw ByteArray.empty f;obtain⟨u,hu,a⟩:=A01 hn hl b c (AX d).length 0 [] (by omega) (by omega);have g:(Ai d).length=(AX d).length:=by simp[Ai]
 refine A03 s (A8 d) 0 (u,(Ai d).getD j []) ?_ (DN a e);rw[El];refine⟨(Ai d).getD j [],kS (Dh (by omega)),?_⟩;unfold Ia;rw[hu]
theorem TW {d:List AL} (h:BT d=0) {x:AL} (hx:x∈d):0<=Dc (A8 d) x.1:=TV h (Wi hx)
theorem CA {d:List AL} (h:(CC d).2=0):BT d=0/\(BC (Ai d)).length<=256/\(CC d).1=A8 d:=by
 unfold CC at h ⊢;split at h
 .rename_i h1;exact absurd h h1
 rename_i h1;split at h
 .cases h
 rename_i a;exact⟨If h1,by omega,by rw[As h1,As a]⟩
theorem A8K {d:List AL} (h:BT d=0):0<(A8 d).length:=by
 obtain⟨-,-,a,-,-⟩:=BF h;cases d with
 | nil=>cases a
 | cons x d =>
  have:=TW h (x:=x) (by simp);have b:=qD (A8 (x :: d)) x.1;omega
section
attribute [local go_sem] z9
def AB8 (l:List AU) (i k:Int) (m:Nat):Bool:=(m:Int)==i||(m:Int)==k||!OW l k (m:Int)||!OW l (m:Int) i
def A1N (l:List AU) (i k:Int) (n:Nat):Bool:=(List.range n).all (AB8 l i k)
def A1O (l:List AU) (i:Int) (k:Nat):Bool:=!((k:Int)==i||!OW l (k:Int) i)&&A1N l i (k:Int) l.length
def OZ (l:List AU) (i:Int) (n:Nat):List Int:=((List.range n).filter λ(k:Nat)=>A1O l i k).map λ(k:Nat)=>(k:Int)
def kT (l:List AU) (i:Int):List Int:=OZ l i l.length
theorem qE (l:List AU) (i:Int) (n:Nat):OZ l i (n+1)=OZ l i n++if A1O l i n=true then [(n:Int)] else []:=by
 unfold OZ;rw[Yf,AFa,UZ]
 congr 1
 rw[Yr,AFG];split<;>rfl
theorem A1P (l:List AU) (i:Int) (n:Nat):(OZ l i n).length<=n:=by
 unfold OZ;rw[OF];exact UR (Yw _ _) (by simp)
theorem A1Q (l:List AU) (i k:Int) (n:Nat):A1N l i k (n+1)=(A1N l i k n&&AB8 l i k n):=by
 unfold A1N;rw[Yf,AF3];simp
def A4H:AZ:={ ins:=[KF,T3],pre:=λ(l,i,_)=>((0:Int)<=i/\i<(List.length l:Int))/\List.length l<=256/\(∀x∈(l:List AU),x.2.length<=64),out:=λ(l,i,_)=>[.p Ft (kT l i)] }
theorem A8L:Ad Tryz.prog 119 A4H:=by
 refine fK [0,1,4,5,6,7,8,12,24,28,56] Tryz.func119 Tryz.ntmps119 (AF A00 AH) ?_;rintro w0 O0 ⟨l,i,u⟩ c-⟨hi,hl,hx⟩;have hl:l.length<=256:=hl;have f:∀x∈(l:List AU),x.2.length<=100000:=λx h=>UR (hx x h) (by decide);simp only[A4H,AM];repeat'(first|exact trivial|apply eS rfl|refine rX c ?_ ?_)
 refine AK (ι:={k:Nat//k<=l.length}) (λk=>⟨[(0,.p KF l),(1,.p T3 i),(5,.sr 60 T3 0 (OZ l i k.1).length),(6,.p (.int .i64) (k.1:Int))],[(60,.arr 3 T3 (OZ l i k.1))]⟩) (λk=>l.length-k.1) ⟨0,Is _⟩ (AD [(60,.nil)] rfl rfl ?_ ?_) (λk=>?_)
 .refine eM ?_;rfl
 .refine eM ?_;rfl
 obtain⟨k,hk⟩:=k;have hk:k<=l.length:=hk;have n:=A1P l i k;have hs:=qE l i k;simp only;repeat'(first|exact trivial|apply eS rfl|apply AB|refine rX c ?_ ?_|refine rC ?_ ?_<;>intro a<;>try(cases a;done))
 .intro h;exact⟨by assumption,hi,f⟩
 .exact eV
 .have e:k<l.length:=by exact eV
  have b:A1O l i k=false:=by
   unfold A1O;rw[Yx];left;rw[oR,Ub,YV,UL];exact a
  rw[b,As (by simp),Uh]at hs;refine⟨⟨k+1,by omega⟩,by simp only;omega,AD [(60,.nm 60)] rfl rfl ?_ ?_⟩
  .simp only[hs];exact eN
  simp only[hs];exact eN
 .have e:k<l.length:=by exact eV
  have b:A1O l i k=A1N l i (k:Int) l.length:=by
   unfold A1O;rw[show ((k:Int)==i||!OW l (k:Int) i)=false by
    rw[Yl,ZO,oR];exact a]
   rfl
  refine AK (ι:={m:Nat//m<=l.length}) (λm=>⟨[(0,.p KF l),(1,.p T3 i),(5,.sr 60 T3 0 (OZ l i k).length),(6,.p (.int .i64) (k:Int)),(7,.p .bool (A1N l i (k:Int) m.1)),(8,.p (.int .i64) (m.1:Int))],[(60,.arr 3 T3 (OZ l i k))]⟩) (λm=>l.length-m.1) ⟨0,Is _⟩ (AD [(60,.nm 60)] rfl rfl ?_ ?_) (λm=>?_)
  .exact eN
  .refine eM ?_;rfl
  obtain⟨m,g⟩:=m;have g:m<=l.length:=g;have j:=A1Q l i (k:Int) m;simp only;repeat'(first|exact trivial|apply eS rfl|apply AB|refine rX c ?_ ?_|refine rC ?_ ?_<;>intro a<;>try(cases a;done))
  .exact⟨λh=>⟨by assumption,a,f⟩,λh=>⟨a,hi,f⟩⟩
  .exact eV
  .have d:m<l.length:=by exact eV
   refine⟨⟨m+1,by omega⟩,by simp only;omega,AD [(60,.nm 60)] rfl rfl ?_ ?_⟩
   .exact eN
   simp only[j];unfold AB8;exact eN
  .simp only[AQ];dsimp only[Ty.den]at *;omega
  .exact eV
  .have d:m=l.length:=by exact eV
   subst d;rw[b,Bq a]at hs;refine⟨⟨k+1,by omega⟩,by simp only;omega,AD [(60,.nm 60)] rfl rfl ?_ ?_⟩
   .simp only[hs];exact eN
   simp only[hs];exact eN
  .exact eV
  have d:m=l.length:=by exact eV
  subst d;rw[b,As (by rw[a];simp),Uh]at hs;refine⟨⟨k+1,by omega⟩,by simp only;omega,AD [(60,.nm 60)] rfl rfl ?_ ?_⟩
  .simp only[hs];exact eN
  simp only[hs];exact eN
 have e:k=l.length:=by exact eV
 subst e;refine Fl [60] ?_;exact fI c [.tmp 4] (by unfold kT;exact eR)
end
section
attribute [local go_sem] Qr WQ Ji
abbrev FV:=ByteArray×ByteArray
abbrev f0V:FV:=(ByteArray.empty,ByteArray.empty)
def dcG (all:List ByteArray) (l:List FV):Nat->List FV->Int
 | _,[]=>0
 | k,x :: r=>if FB x.1 true=false then 1 else if ((l.take k).any λy=>Ac y.1 x.1)=true then 4 else if Af all x.2=false then 5 else dcG all l (k+1) r
def eG (all:List ByteArray):List AL->Int
 | []=>0
 | x :: l=>if dcG all x.2.2 0 x.2.2≠0 then dcG all x.2.2 0 x.2.2 else eG all l
def Mf (d:List AL):Int:=eG (AX d) d
theorem A4I (all:List ByteArray) (l:List FV) {k:Nat} (h:k<l.length):dcG all l k (l.drop k)=if FB (l.getD k f0V).1 true=false then 1 else if ((l.take k).any λy=>Ac y.1 (l.getD k f0V).1)=true then 4 else if Af all (l.getD k f0V).2=false then 5 else dcG all l (k+1) (l.drop (k+1)):=by
 rw[On h];have e:l.getD k f0V=l[k]:=by simp[AS,h]
 rw[e];rfl
theorem A1R (all:List ByteArray) (l:List AL) {k:Nat} (h:k<l.length):eG all (l.drop k)=if dcG all (l.getD k d0).2.2 0 (l.getD k d0).2.2≠0 then dcG all (l.getD k d0).2.2 0 (l.getD k d0).2.2 else eG all (l.drop (k+1)):=by
 rw[On h];have e:l.getD k d0=l[k]:=by simp[AS,h]
 rw[e];rfl
def qF:AZ:={ ins:=[FA],pre:=λ(d,_)=>List.length d<=256,out:=λ(d,_)=>[.p Fm (Mf d)] }
theorem A4J:Ad Tryz.prog 193 qF:=by
 refine fK [0,2,3,4,5,6,7,13,24,33,36,49,57] Tryz.func193 Tryz.ntmps193 (AF Z4 (AF pQ (AF HD AH))) ?_;rintro w0 O0 ⟨d,u⟩ c ⟨⟨x,v⟩,-⟩ j;have j:d.length<=256:=j;simp only[qF,AM];repeat'(first|exact trivial|apply eS rfl|refine rX c ?_ ?_)
 .exact UR j (by decide)
 have w:Mf d=eG (AX d) d:=rfl;rw[w];generalize AX d=all at *;refine AK (ι:={i:Nat//i<=d.length/\eG all (d.drop i)=eG all d}) (λi=>⟨[(0,.p FA d),(3,.p GP all),(4,.p (.int .i64) (i.1:Int))],[]⟩) (λi=>d.length-i.1) ⟨0,Is _,rfl⟩ (eW []) (λi=>?_)
 obtain⟨i,hi,hf⟩:=i;simp only;repeat'(first|exact trivial|apply eS rfl|refine rX c ?_ ?_|refine rC ?_ ?_<;>intro a<;>try(cases a;done))
 .exact a
 .have o:i<d.length:=by exact eV
  rw[A1R all d o]at hf;have A:(d.getD i d0).2.2.length<=AQ:=(v _ (AE d d0 o)).2.2.1;have z:(List.getD d i (ByteArray.empty,[],[])).2.2=(d.getD i d0).2.2:=rfl;rw[z];generalize (d.getD i d0).2.2=l at *;simp only[AQ]at A;refine AK (ι:={k:Nat//k<=l.length/\dcG all l k (l.drop k)=dcG all l 0 l}) (λk=>⟨[(0,.p FA d),(3,.p GP all),(4,.p (.int .i64) (i:Int)),(5,.p jS l),(6,.p (.int .i64) (k.1:Int))],[]⟩) (λk=>l.length-k.1) ⟨0,Is _,rfl⟩ (eW []) (λk=>?_)
  obtain⟨k,hk,b⟩:=k;have r:=λh:k<l.length=>A4I all l h;simp only;repeat'(first|exact trivial|apply eS rfl|apply AB|refine rX c ?_ ?_|refine rC ?_ ?_<;>intro a<;>try(cases a;done))
  .exact a
  .have e:k<l.length:=by exact eV
   rw[r e,Bq a]at b;rw[<-b,Bq (by decide)]at hf;exact fI c [.tmp 2] (by rw[<-hf];exact eR)
  .have e:k<l.length:=by exact eV
   have q:(k:Int)<(l.length:Int):=Do.2 e;rw[r e,As (by rw[a];simp)]at b;refine AK (ι:={m:Nat//m<=k/\((l.take m).any λy=>Ac y.1 (l.getD k f0V).1)=false}) (λm=>⟨[(0,.p FA d),(3,.p GP all),(4,.p (.int .i64) (i:Int)),(5,.p jS l),(6,.p (.int .i64) (k:Int)),(7,.p (.int .i64) (m.1:Int))],[]⟩) (λm=>k-m.1) ⟨0,Is _,rfl⟩ (eW []) (λm=>?_)
   obtain⟨m,B,g⟩:=m;have s:=λh:m<l.length=>Na l f0V (λy=>Ac y.1 (l.getD k f0V).1) h;simp only;repeat'(first|exact trivial|apply eS rfl|apply AB|refine rX c ?_ ?_|refine rC ?_ ?_<;>intro a<;>try(cases a;done))
   .have h1:(m:Int)<(k:Int):=a;exact⟨by exact eV,q⟩
   .have f:m<k:=Do.1 (by assumption);have n:=s (by omega);have t:((l.take k).any λy=>Ac y.1 (l.getD k f0V).1)=true:=by
     rw[Ua];exact⟨l.getD m f0V,by
      rw[ABU];refine⟨m,by omega,?_⟩;simp[AS,show m<l.length by omega],a⟩
    rw[Bq t]at b;rw[<-b,Bq (by decide)]at hf;exact fI c [.tmp 2] (by rw[<-hf];exact eR)
   .omega
   .have f:m<k:=Do.1 (by assumption);have n:=s (by omega);refine⟨⟨m+1,by omega,?_⟩,by simp only;omega,AD [] rfl rfl ?_ ?_⟩
    .rw[n,g];exact a
    .exact eN
    exact eN
   .exact q
   .have f:m=k:=by omega
    subst f;rw[As (by rw[g];simp),Bq a]at b;rw[<-b,Bq (by decide)]at hf;exact fI c [.tmp 2] (by rw[<-hf];exact eR)
   .have:=x;simp only[AQ]at this;omega
   have f:m=k:=by omega
   subst f;rw[As (by rw[g];simp),As (by rw[a];simp)]at b;exact⟨⟨m+1,by omega,b⟩,by simp only;omega,eW []⟩
  .omega
  have e:l.drop k=[]:=TO (US.1 a);rw[e]at b;rw[<-b,As (by simp[dcG])]at hf;exact⟨⟨i+1,by omega,hf⟩,by simp only;omega,eW []⟩
 have e:d.drop i=[]:=TO (by exact eV);rw[e]at hf;exact fI c [.tmp 2] (by rw[<-hf];first|exact eR|refine Uv ?_;rfl)
end
section
attribute [local go_sem] d7 dT Mb cs0
def TX (s:ByteArray) (o:List ByteArray) (x:AL):List ByteArray:=if (Gi x s).2=true then Dv o x.1 else o
def Jm (d:List AL) (s:ByteArray):List ByteArray:=d.foldl (TX s) []
theorem qG (s:ByteArray) (d:List AL) (k:Nat):(Jm (d.take k) s).length<=k:=by
 have key:∀(l:List AL) (o:List ByteArray),(l.foldl (TX s) o).length<=o.length+l.length:=by
  intro l;induction l with
  | nil=>intro o;simp
  | cons x l b =>
   intro o;have h1:=b (TX s o x);have a:(TX s o x).length<=o.length+1:=by
    unfold TX;split
    .exact MX o x.1
    omega
   simp only[UN,No];omega
 have h1:=key (d.take k) [];have a:=Yn k d;unfold Jm;simp only[Yo]at h1;omega
def Gl (d:List AL) (s:ByteArray):ByteArray×Bool:=if (CF d (Jm d s)).length=1 then ((CF d (Jm d s)).getD 0 ByteArray.empty,true) else (ByteArray.empty,false)
def eH:AZ:={ ins:=[FA,T9],pre:=λ(d,_,_)=>WV d/\List.length d<=256,out:=λ(d,s,_)=>[.p T9 (Gl d s).1,.p .bool (Gl d s).2] }
theorem kU:Ad Tryz.prog 167 eH:=by
 refine fK [0,1,4,5,6,7,9,10,14,26,39] Tryz.func167 Tryz.ntmps167 (AF kC (AF R5 (AF WY AH))) ?_;rintro w0 O0 ⟨d,s,u⟩ c-⟨l,f⟩;have f:d.length<=256:=f;simp only[eH,AM];repeat'(first|exact trivial|apply eS rfl|refine rX c ?_ ?_)
 refine AK (ι:={i:Nat//i<=d.length}) (λi=>⟨[(0,.p FA d),(1,.p T9 s),(6,.p GP (Jm (d.take i.1) s)),(7,.p (.int .i64) (i.1:Int))],[]⟩) (λi=>d.length-i.1) ⟨0,Is _⟩ (AD [] rfl rfl ?_ ?_) (λi=>?_)
 .exact eN
 .refine eM ?_;rfl
 obtain⟨i,hi⟩:=i;have hi:i<=d.length:=hi;have hn:=qG s d i;have hs:=λh:i<d.length=>Ey (TX s) d d0 [] h;have j:∀e,Jm e s=e.foldl (TX s) []:=λ_=>rfl;rw[<-j,<-j]at hs;unfold TX at hs;simp only;repeat'(first|exact trivial|apply eS rfl|apply AB|refine rX c ?_ ?_|refine rC ?_ ?_<;>intro a<;>try(cases a;done))
 .exact a
 .exact⟨by assumption,by omega⟩
 .exact eV
 .have b:i<d.length:=by exact eV
  have e:=hs b;rw[Bq a]at e;refine⟨⟨i+1,by omega⟩,by simp only;omega,AD [] rfl rfl ?_ ?_⟩
  .exact eN
  simp only[e];exact eN
 .exact eV
 .have b:i<d.length:=by exact eV
  have e:=hs b;rw[As (by rw[a];simp)]at e;refine⟨⟨i+1,by omega⟩,by simp only;omega,AD [] rfl rfl ?_ ?_⟩
  .exact eN
  simp only[e];exact eN
 .exact⟨l,f,by omega⟩
 .have b:d.take i=d:=At (by exact eV);rw[b]at a ⊢;have h1:Gl d s=(ByteArray.empty,false):=by
   unfold Gl;rw[As (by omega)]
  exact fI c [.tmp 4,.tmp 5] (by rw[h1];first|exact eR|refine Uv ?_;first|rfl|exact⟨rfl,rfl⟩)
 .have g:((CF d (Jm (d.take i) s)).length:Int)=1:=by simpa using a
  have k:(0:Int)<((CF d (Jm (d.take i) s)).length:Int):=by rw[g];decide
  exact k
 have b:d.take i=d:=At (by exact eV);rw[b]at a ⊢;have g:((CF d (Jm d s)).length:Int)=1:=by simpa using a
 have h1:Gl d s=((CF d (Jm d s)).getD 0 ByteArray.empty,true):=by
  unfold Gl;rw[Bq (by omega)]
 exact fI c [.tmp 4,.tmp 5] (by rw[h1];exact eR)
end
section
attribute [local go_sem] d7 Uy z9 A4m
def ZD (l:List AU) (t:Int) (s:ByteArray) (o:List Int×Bool) (x:AL):List Int×Bool :=
 if (!(Gi x s).2||!OW l (Dc l x.1) t)=true then o else (Gh o.1 (l.getD (Dc l (Gi x s).1).toNat c0).2,true)
def Wn (d:List AL) (l:List AU) (t:Int) (s:ByteArray):List Int×Bool:=d.foldl (ZD l t s) ((l.getD 0 c0).2,false)
def A8N (d:List AL) (l:List AU):Prop:=(∀x∈d,0<=Dc l x.1)/\∀x∈d,∀y∈x.2.2,0<=Dc l y.2
theorem kV (s:ByteArray):∀(l:List (ByteArray×ByteArray)),(kB s l).2=true->∃y∈l,y.2=(kB s l).1
 | [],h=>by cases h
 | x :: l,h=>by
  simp only[kB]at h ⊢;split at h
  .rename_i h1;rw[Bq h1];exact⟨x,by simp,rfl⟩
  rename_i h1;rw[As h1];obtain⟨y,a,e⟩:=kV s l h;exact⟨y,by simp[a],e⟩
theorem A8N.value {d:List AL} {l:List AU} (h:A8N d l) {x:AL} (hx:x∈d) {s:ByteArray} (a:(Gi x s).2=true):0<=Dc l (Gi x s).1:=by
 obtain⟨y,b,e⟩:=kV s x.2.2 a;have:=h.2 x hx y b;rw[e]at this;exact this
theorem A4K {l:List AU} (t:Int) (s:ByteArray) (x:AL) {o:List Int×Bool} (h:o.1.length<=64):(ZD l t s o x).1.length<=64:=by
 unfold ZD;split
 .exact h
 exact UR (kD _ _) h
theorem Wo {l:List AU} (t:Int) (s:ByteArray):∀(d:List AL) {o:List Int×Bool},o.1.length<=64->(d.foldl (ZD l t s) o).1.length<=64
 | [],_,h=>h
 | x :: d,_,h=>by rw[UN];exact Wo t s d (A4K t s x h)
theorem kW (s:ByteArray):∀(l:List AU) (k:Nat),SB s k l<((k+l.length:Nat):Int)
 | [],k=>by simp only[SB];omega
 | x :: l,k=>by
  simp only[SB];split
  .simp only[No];omega
  have:=kW s l (k+1);simp only[No];omega
theorem TY (l:List AU) (s:ByteArray):Dc l s<(l.length:Int):=by
 have:=kW s l 0;rw[tO]at this;exact this
def A8O:AZ:={ ins:=[FA,KF,T3,T9],pre:=λ(d,l,t,_,_)=>A8N d l/\((0:Int)<=t/\t<(List.length l:Int))/\List.length l<=256/\(∀x∈(l:List AU),x.2.length<=64),out:=λ(d,l,t,s,_)=>[.p BN (Wn d l t s).1,.p .bool (Wn d l t s).2] }
theorem A4L:Ad Tryz.prog 158 A8O:=by
 refine fK [0,1,2,3,8,9,10,11,12,13,14,22,48] Tryz.func158 Tryz.ntmps158 (AF kC (AF Z9 (AF A00 (AF A4n AH)))) ?_;rintro w0 O0 ⟨d,l,t,s,u⟩ f ⟨⟨y,E⟩,-⟩ ⟨q,j,hl,hx⟩;have hl:l.length<=256:=hl;have D:∀x∈(l:List AU),x.2.length<=100000:=λx h=>UR (hx x h) (by decide);have n:0<List.length l:=Do.1 (AG9 j.1 j.2);simp only[AQ]at y;simp only[A8O,AM];repeat'(first|exact trivial|apply eS rfl|refine rX f ?_ ?_)
 .exact Do.2 n
 have m:Wn d l t s=d.foldl (ZD l t s) ((l.getD 0 c0).2,false):=rfl;have v:(l.getD 0 c0).2.length<=64:=hx _ (AE l c0 n);have w:(List.getD l 0 (ByteArray.empty,[])).2=(l.getD 0 c0).2:=rfl;rw[w];generalize (l.getD 0 c0).2=c at *;refine AK (ι:={i:Nat//i<=d.length}) (λi=>⟨[(0,.p FA d),(1,.p KF l),(2,.p T3 t),(3,.p T9 s),(10,.p .bool ((d.take i.1).foldl (ZD l t s) (c,false)).2),(11,.p BN ((d.take i.1).foldl (ZD l t s) (c,false)).1),(12,.p (.int .i64) (i.1:Int))],[]⟩) (λi=>d.length-i.1) ⟨0,Is _⟩ (AD [] rfl rfl ?_ ?_) (λi=>?_)
 .exact eN
 .refine eM ?_;exact⟨rfl,rfl⟩
 obtain⟨i,hi⟩:=i;have hi:i<=d.length:=hi;have z:=Wo (l:=l) t s (d.take i) (o:=(c,false)) v;have hs:=λh:i<d.length=>Ey (ZD l t s) d d0 (c,false) h;have C:=λh:i<d.length=>q.1 _ (AE d d0 h);have B:=λ(h:i<d.length) (g:(Gi (d.getD i d0) s).2=true)=>q.value (AE d d0 h) g;have k:∀o x,ZD l t s o x=(if (!(Gi x s).2||!OW l (Dc l x.1) t)=true then o else (Gh o.1 (l.getD (Dc l (Gi x s).1).toNat c0).2,true)):=λ_ _=>rfl;generalize r:(d.take i).foldl (ZD l t s) (c,false)=o at *;simp only;repeat'(first|exact trivial|apply eS rfl|apply AB|refine rX f ?_ ?_|refine rC ?_ ?_<;>intro a<;>try(cases a;done))
 .exact a
 .have b:i<d.length:=Do.1 a;exact⟨λ_=>a,λ_=>⟨⟨C b,TY _ _⟩,j,D⟩⟩
 .exact eV
 .have b:i<d.length:=Do.1 (by assumption);have e:=hs b;rw[k,Bq (by rw[Ub,UL,UL];exact a)]at e;refine⟨⟨i+1,by omega⟩,by simp only;omega,AD [] rfl rfl ?_ ?_⟩
  .exact eN
  refine eM ?_;rw[e];exact⟨rfl,rfl⟩
 .have b:i<d.length:=Do.1 (by assumption);exact⟨⟨B b a.1,TY _ _⟩,UR z (by decide)⟩
 .exact eV
 .have b:i<d.length:=Do.1 (by assumption);have e:=hs b;have A:¬(!(Gi (d.getD i d0) s).2||!OW l (Dc l (d.getD i d0).1) t)=true:=by
   rw[Ub,UL,UL];rintro (h|h)
   .rw[show (Gi (d.getD i d0) s).2=true from a.1]at h;cases h
   rw[show OW l (Dc l (d.getD i d0).1) t=true from a.2]at h;cases h
  rw[k,As A]at e;refine⟨⟨i+1,by omega⟩,by simp only;omega,AD [] rfl rfl ?_ ?_⟩
  .exact eN
  refine eM ?_;rw[e];exact⟨rfl,rfl⟩
 have b:d.take i=d:=At (US.1 a);rw[b]at r;rw[r]at m;exact fI f [.tmp 8,.tmp 9] (by rw[m];exact eR)
end
theorem TZ:∀ {l:List AL},MV l=0->∀x∈l,x.2.1.length<=256/\x.2.2.length<=256
 | [],_,x,hx=>by cases hx
 | y :: l,h,x,hx=>by
  simp only[MV]at h;split at h
  .cases h
  rename_i h1;rcases By.1 hx with rfl|hx
  .exact⟨by omega,by omega⟩
  exact TZ h x hx
theorem LM {d:List AL} (h:BT d=0):∀x∈d,x.2.1.length<=256/\x.2.2.length<=256:=by
 have h1:FC d=0:=by
  unfold BT at h;split at h
  .rename_i h1;exact absurd h h1
  rename_i h1;exact If h1
 unfold FC at h1;split at h1
 .cases h1
 exact TZ h1
theorem Ph {d:List AL} (h:BT d=0):∀x∈A8 d,x.2.length<=64:=by
 intro x hx;obtain⟨-,a,-⟩:=BF h;obtain⟨b,c,rfl⟩:=El.1 hx;exact Qz (Pg a) b c
theorem kX {all:List ByteArray} {l:List FV}:∀ {r:List FV} {k:Nat},dcG all l k r=0->∀y∈r,Af all y.2=true
 | [],_,_,y,a=>by cases a
 | x :: r,k,h,y,a=>by
  simp only[dcG]at h;split at h
  .cases h
  split at h
  .cases h
  split at h
  .cases h
  rename_i b;rcases By.1 a with rfl|a
  .simpa using b
  exact kX h y a
theorem aH {all:List ByteArray}:∀ {l:List AL},eG all l=0->∀x∈l,∀y∈x.2.2,Af all y.2=true
 | [],_,x,hx=>by cases hx
 | z :: l,h,x,hx=>by
  simp only[eG]at h;split at h
  .rename_i h1;exact absurd h h1
  rename_i h1;rcases By.1 hx with rfl|hx
  .exact kX (If h1)
  exact aH h x hx
theorem A04 {d:List AL} (h:BT d=0) (a:Mf d=0):A8N d (A8 d) :=
 ⟨λx hx=>TW h hx,λx hx y b=>TV h (aH a x hx y b)⟩
section
attribute [local go_sem] SF Wb qF eH A8O
def Pi (d:List AL) (l:List AU) (t:Nat) (s:ByteArray):Bool:=(Wn d l (t:Int) s).2&&((Wn d l (t:Int) s).1.length:Int)==0
def A05 (d:List AL) (l:List AU) (f:List ByteArray) (t:Nat):Bool:=f.any (Pi d l t)
def Mg (d:List AL) (l:List AU) (f:List ByteArray) (n:Nat):Bool:=(List.range n).any (A05 d l f)
theorem kY (d:List AL) (l:List AU) (f:List ByteArray) (n:Nat):Mg d l f (n+1)=(Mg d l f n||A05 d l f n):=by
 unfold Mg;rw[Yf,AFi];simp
def Be (d:List AL):Int :=
 if (CC d).2≠0 then (CC d).2 else if 64<(DU d).length then 7 else if Mf d≠0 then Mf d else
 if ((DU d).all λs=>(Gl d s).2)=false then 10 else if Mg d (CC d).1 (DU d) (CC d).1.length=true then 11 else 0
def Uz:AZ:={ ins:=[FA],pre:=λ_=>True,out:=λ(d,_)=>[.p Fm (Be d)] }
theorem aI:Ad Tryz.prog 156 Uz:=by
 refine fK [0,2,3,4,5,6,7,9,10,11,12,13,20,26,30,35,48,52,58,77] Tryz.func156 Tryz.ntmps156 (AF Q0 (AF Wc (AF A4J (AF kU (AF A4L AH))))) ?_;rintro w0 O0 ⟨d,u⟩ b - -;simp only[Uz,AM];repeat'(first|exact trivial|apply eS rfl|refine rX b ?_ ?_|refine rC ?_ ?_<;>intro a<;>try(cases a;done))
 .have h1:Be d=(CC d).2:=by unfold Be;rw[Bq a]
  exact fI b [.tmp 2] (by rw[h1];exact eR)
 .have c:(CC d).2=0:=by simpa using a
  obtain⟨e,-,-⟩:=CA c;obtain⟨-,r,-⟩:=BF e;exact⟨r,λx hx=>(LM e x hx).2⟩
 .have c:(CC d).2=0:=by simpa using ‹((CC d).2 != 0)=false›
  have h1:Be d=7:=by
   unfold Be;rw[As (by rw[c];simp),Bq (by omega)]
  exact fI b [.tmp 2] (by rw[h1];exact eR)
 .have c:(CC d).2=0:=by simpa using ‹((CC d).2 != 0)=false›
  obtain⟨e,-,-⟩:=CA c;exact(BF e).2.1
 .have c:(CC d).2=0:=by simpa using ‹((CC d).2 != 0)=false›
  have h1:Be d=Mf d:=by
   unfold Be;rw[As (by rw[c];simp),As (by omega),Bq a]
  exact fI b [.tmp 2] (by rw[h1];exact eR)
 have c:(CC d).2=0:=by simpa using ‹((CC d).2 != 0)=false›
 have v:Mf d=0:=by simpa using a
 obtain⟨e,B,hl⟩:=CA c;obtain⟨G,r,-⟩:=BF e;have D:=A04 e v;have J:=Ph e;have K:=A8K e;have C:(A8 d).length<=256:=by rw[Ib];exact B
 have g:Be d=if ((DU d).all λs=>(Gl d s).2)=false then 10 else if Mg d (CC d).1 (DU d) (CC d).1.length=true then 11 else 0:=by
  unfold Be;rw[As (by rw[c];simp),As (by omega),As (by rw[v];simp)]
 rw[hl]at g ⊢;generalize A8 d=l at *;generalize DU d=f at *;refine AK (ι:={i:Nat//i<=f.length/\((f.take i).all λs=>(Gl d s).2)=true}) (λi=>⟨[(0,.p FA d),(3,.p KF l),(5,.p GP f),(7,.p (.int .i64) (i.1:Int))],[]⟩) (λi=>f.length-i.1) ⟨0,Is _,rfl⟩ (eW []) (λi=>?_)
 obtain⟨i,hi,n⟩:=i;have F:=λh:i<f.length=>KH f ByteArray.empty (λs=>(Gl d s).2) h;simp only;repeat'(first|exact trivial|apply eS rfl|apply AB|refine rX b ?_ ?_|refine rC ?_ ?_<;>intro a<;>try(cases a;done))
 .exact⟨a,G,r⟩
 .have j:i<f.length:=Do.1 (by assumption);have z:(f.all λs=>(Gl d s).2)=false:=by
   rw[AAv];intro h;have:=OR.1 h _ (AE f ByteArray.empty j);rw[show (Gl d (f.getD i ByteArray.empty)).2=false from a]at this;cases this
  rw[Bq z]at g;exact fI b [.tmp 2] (by rw[g];exact eR)
 .omega
 .have j:i<f.length:=Do.1 (by assumption);refine⟨⟨i+1,j,?_⟩,by simp only;omega,AD [] rfl rfl ?_ ?_⟩
  .rw[F j,n];exact a
  .exact eN
  exact eN
 have j:f.take i=f:=At (US.1 a);rw[j]at n;rw[As (by rw[n];simp)]at g;refine AK (ι:={t:Nat//t<=l.length/\Mg d l f t=false}) (λt=>⟨[(0,.p FA d),(3,.p KF l),(5,.p GP f),(10,.p (.int .i64) (t.1:Int))],[]⟩) (λt=>l.length-t.1) ⟨0,Is _,rfl⟩ (eW []) (λt=>?_)
 obtain⟨t,L,y⟩:=t;have I:=kY d l f t;simp only;repeat'(first|exact trivial|apply eS rfl|refine rX b ?_ ?_|refine rC ?_ ?_<;>intro a<;>try(cases a;done))
 .have w:t<l.length:=Do.1 a;refine AK (ι:={k:Nat//k<=f.length/\(f.take k).any (Pi d l t)=false}) (λk=>⟨[(0,.p FA d),(3,.p KF l),(5,.p GP f),(10,.p (.int .i64) (t:Int)),(11,.p (.int .i64) (k.1:Int))],[]⟩) (λk=>f.length-k.1) ⟨0,Is _,rfl⟩ (eW []) (λk=>?_)
  obtain⟨k,hk,o⟩:=k;have E:=λh:k<f.length=>Na f ByteArray.empty (Pi d l t) h;simp only;repeat'(first|exact trivial|apply eS rfl|apply AB|refine rX b ?_ ?_|refine rC ?_ ?_<;>intro a<;>try(cases a;done))
  .exact⟨a,D,by assumption,C,J⟩
  .have m:k<f.length:=Do.1 (by assumption);have q:Pi d l t (f.getD k ByteArray.empty)=true:=by
    unfold Pi;rw[An,YV];exact a
   have A:Mg d l f l.length=true:=by
    unfold Mg;rw[Ua];exact⟨t,Ue.2 w,JN f ByteArray.empty _ m q⟩
   rw[Bq A]at g;exact fI b [.tmp 2] (by rw[g];exact eR)
  .omega
  .have m:k<f.length:=Do.1 (by assumption);have q:Pi d l t (f.getD k ByteArray.empty)=false:=by
    rw[AAv];unfold Pi;intro h;rw[An,YV]at h;exact a h.1 h.2
   refine⟨⟨k+1,m,?_⟩,by simp only;omega,AD [] rfl rfl ?_ ?_⟩
   .rw[E m,o,q];rfl
   .exact eN
   exact eN
  .omega
  have m:f.take k=f:=At (US.1 a);rw[m]at o;refine⟨⟨t+1,w,?_⟩,by simp only;omega,AD [] rfl rfl ?_ ?_⟩
  .rw[I,y];exact o
  .exact eN
  exact eN
 have H:t=l.length:=by exact eV
 subst H;rw[As (by rw[y];simp)]at g;exact fI b [.tmp 2] (by rw[g];exact eR)
end
section
attribute [local go_sem] Uz SF Wb eH Uy
abbrev Wp:=ByteArray×Int
theorem DP {d:List AL} (h:Be d=0):(CC d).2=0/\(DU d).length<=64/\Mf d=0:=by
 unfold Be at h;split at h
 .rename_i h1;exact absurd h h1
 rename_i h1;split at h
 .cases h
 rename_i b;split at h
 .rename_i a;exact absurd h a
 rename_i a;exact⟨If h1,by omega,If a⟩
def Ta (d:List AL) (s:ByteArray):Wp:=(s,Dc (A8 d) (Gl d s).1)
def Di (d:List AL):List Wp×Int:=if Be d≠0 then ([],Be d) else ((DU d).map (Ta d),0)
theorem B4 {α β:Type} (f:α->β) (l:List α) (d:α) {k:Nat} (h:k<l.length):(l.take (k+1)).map f=(l.take k).map f++[f (l.getD k d)]:=by
 rw[Av l d h,UZ];rfl
theorem eI {α β:Type} (f:α->β) (l:List α) {k:Nat} (h:k<=l.length):((l.take k).map f).length=k:=by simp[h]
def SG:AZ:={ ins:=[FA],pre:=λ_=>True,out:=λ(d,_)=>[.p dQ (Di d).1,.p Fm (Di d).2] }
theorem kZ:Ad Tryz.prog 120 SG:=by
 refine fK [0,2,3,4,5,7,8,9,10,15,27] Tryz.func120 Tryz.ntmps120 (AF aI (AF Q0 (AF Wc (AF kU (AF Z9 AH))))) ?_;rintro w0 O0 ⟨d,u⟩ g - -;simp only[SG,AM];repeat'(first|exact trivial|apply eS rfl|refine rX g ?_ ?_|refine rC ?_ ?_<;>intro a<;>try(cases a;done))
 .have h1:Di d=([],Be d):=by unfold Di;rw[Bq a]
  exact fI g [.tmp 2,.tmp 3] (by rw[h1];exact eR)
 .have c:Be d=0:=by simpa using a
  obtain⟨k,-,-⟩:=DP c;obtain⟨b,-,-⟩:=CA k;exact⟨(BF b).2.1,λx hx=>(LM b x hx).2⟩
 have c:Be d=0:=by simpa using a
 obtain⟨k,q,-⟩:=DP c;obtain⟨b,-,hl⟩:=CA k;obtain⟨o,l,-⟩:=BF b;have n:Di d=((DU d).map (Ta d),0):=by unfold Di;rw[As (by rw[c];simp)]
 rw[hl];generalize DU d=f at *;refine AK (ι:={i:Nat//i<=f.length}) (λi=>⟨[(0,.p FA d),(5,.p KF (A8 d)),(7,.p GP f),(8,.sr 49 A49 0 ((f.take i.1).map (Ta d)).length),(9,.p (.int .i64) (i.1:Int))],[(49,.arr 163 A49 ((f.take i.1).map (Ta d)))]⟩) (λi=>f.length-i.1) ⟨0,Is _⟩ (eW [(49,.nil)]) (λi=>?_)
 obtain⟨i,hi⟩:=i;have m:=eI (Ta d) f hi;have hs:=λh:i<f.length=>B4 (Ta d) f ByteArray.empty h;simp only;repeat'(first|exact trivial|apply eS rfl|apply AB|refine rX g ?_ ?_|refine rC ?_ ?_<;>intro a<;>try(cases a;done))
 .exact⟨a,o,l⟩
 .refine⟨a,?_⟩;rw[m];simp only[AQ];omega
 .omega
 .have j:i<f.length:=Do.1 a;have e:=hs j;refine⟨⟨i+1,j⟩,by simp only;omega,AD [(49,.nm 49)] rfl rfl ?_ ?_⟩
  .simp only[e];refine eM ?_;rfl
  simp only[e];exact eN
 have j:f.take i=f:=At (US.1 a);rw[j];refine Fl [49] ?_;exact fI g [.tmp 2,.tmp 3] (by rw[n];exact eR)
end
section
attribute [local go_sem] Uz SF Wb A8O pY
def eJ (d:List AL) (l:List AU) (f:List ByteArray) (t:Nat) (n:Nat):List (Int×Int) :=
 ((List.range n).filter λ(i:Nat)=>(Wn d l (t:Int) (f.getD i ByteArray.empty)).2).map λ(i:Nat)=>((i:Int),d6 l (Wn d l (t:Int) (f.getD i ByteArray.empty)).1)
def Mh (d:List AL) (l:List AU) (f:List ByteArray) (n:Nat):List (List (Int×Int)):=(List.range n).map λt=>eJ d l f t f.length
def Bm (d:List AL):List (List (Int×Int))×Int:=if Be d≠0 then ([],Be d) else (Mh d (A8 d) (DU d) (A8 d).length,0)
theorem A1S (d:List AL) (l:List AU) (f:List ByteArray) (t n:Nat):eJ d l f t (n+1)=eJ d l f t n++if (Wn d l (t:Int) (f.getD n ByteArray.empty)).2=true then [((n:Int),d6 l (Wn d l (t:Int) (f.getD n ByteArray.empty)).1)] else []:=by
 unfold eJ;rw[Yf,AFa,UZ]
 congr 1
 rw[Yr,AFG];split<;>rfl
theorem A4M (d:List AL) (l:List AU) (f:List ByteArray) (t n:Nat):(eJ d l f t n).length<=n:=by
 unfold eJ;rw[OF];exact UR (Yw _ _) (by simp)
theorem qH (d:List AL) (l:List AU) (f:List ByteArray) (n:Nat):Mh d l f (n+1)=Mh d l f n++[eJ d l f n f.length]:=by simp[Mh,Yf]
theorem aJ (d:List AL) (l:List AU) (f:List ByteArray) (n:Nat):(Mh d l f n).length=n:=by simp[Mh]
theorem A4N {d:List AL} {l:List AU} (h:∀x∈l,x.2.length<=64) (t:Int) (s:ByteArray):(Wn d l t s).1.length<=64:=by
 unfold Wn;refine Wo t s d ?_;rw[AS];cases hh:l[0]? with
 | none=>simp
 | some x=>exact h x (Yk hh)
def Wq:AZ:={ ins:=[FA],pre:=λ_=>True,out:=λ(d,_)=>[.p A7o (Bm d).1,.p Fm (Bm d).2] }
theorem qI:Ad Tryz.prog 117 Wq:=by
 refine fK [0,2,3,4,5,7,8,9,10,11,12,13,17,29,35,49] Tryz.func117 Tryz.ntmps117 (AF aI (AF Q0 (AF Wc (AF A4L (AF A4x AH))))) ?_;rintro w0 O0 ⟨d,u⟩ e - -;simp only[Wq,AM];repeat'(first|exact trivial|apply eS rfl|refine rX e ?_ ?_|refine rC ?_ ?_<;>intro a<;>try(cases a;done))
 .have h1:Bm d=([],Be d):=by unfold Bm;rw[Bq a]
  exact fI e [.tmp 2,.tmp 3] (by rw[h1];exact eR)
 .have h:Be d=0:=by simpa using a
  obtain⟨m,-,-⟩:=DP h;obtain⟨b,-,-⟩:=CA m;exact⟨(BF b).2.1,λx hx=>(LM b x hx).2⟩
 have h:Be d=0:=by simpa using a
 obtain⟨m,z,o⟩:=DP h;obtain⟨b,j,hl⟩:=CA m;obtain⟨B,y,-⟩:=BF b;have w:Bm d=(Mh d (A8 d) (DU d) (A8 d).length,0):=by unfold Bm;rw[As (by rw[h];simp)]
 have v:=A04 b o;have n:=Ph b;have r:(A8 d).length<=256:=by rw[Ib];exact j
 rw[hl];generalize A8 d=l at *;generalize DU d=f at *;have q:=λt s=>A4N (d:=d) n t s;refine AK (ι:={t:Nat//t<=l.length}) (λt=>⟨[(0,.p FA d),(5,.p KF l),(7,.p GP f),(8,.sr 61 dR 0 (Mh d l f t.1).length),(9,.p (.int .i64) (t.1:Int))],[(61,.arr 142 dR (Mh d l f t.1))]⟩) (λt=>l.length-t.1) ⟨0,Is _⟩ (AD [(61,.nil)] rfl rfl ?_ ?_) (λt=>?_)
 .refine eM ?_;rfl
 .refine eM ?_;rfl
 obtain⟨t,C⟩:=t;have j:=aJ d l f t;have hs:=qH d l f t;simp only;repeat'(first|exact trivial|apply eS rfl|refine rX e ?_ ?_|refine rC ?_ ?_<;>intro a<;>try(cases a;done))
 .refine AK (ι:={i:Nat//i<=f.length}) (λi=>⟨[(0,.p FA d),(5,.p KF l),(7,.p GP f),(8,.sr 61 dR 0 (Mh d l f t).length),(9,.p (.int .i64) (t:Int)),(10,.sr 57 A4a 0 (eJ d l f t i.1).length),(11,.p (.int .i64) (i.1:Int))],[(61,.arr 142 dR (Mh d l f t)),(57,.arr 170 A4a (eJ d l f t i.1))]⟩) (λi=>f.length-i.1) ⟨0,Is _⟩ (AD [(61,.nm 61),(57,.nil)] rfl rfl ?_ ?_) (λi=>?_)
  .refine eM ?_;rfl
  .refine eM ?_;rfl
  obtain⟨i,hi⟩:=i;have A:=A4M d l f t i;have c:=A1S d l f t i;simp only;repeat'(first|exact trivial|apply eS rfl|apply AB|refine rX e ?_ ?_|refine rC ?_ ?_<;>intro a<;>try(cases a;done))
  .exact⟨a,v,by assumption,r,n⟩
  .refine⟨UR (q _ _) (by decide),?_⟩;simp only[AQ];omega
  .omega
  .have g:i<f.length:=Do.1 (by assumption);rw[Bq a]at c;refine⟨⟨i+1,g⟩,by simp only;omega,AD [(61,.nm 61),(57,.nm 57)] rfl rfl ?_ ?_⟩
   .simp only[c];exact eN
   simp only[c];exact eN
  .omega
  .have g:i<f.length:=Do.1 (by assumption);rw[As (by rw[a];simp),Uh]at c;refine⟨⟨i+1,g⟩,by simp only;omega,AD [(61,.nm 61),(57,.nm 57)] rfl rfl ?_ ?_⟩
   .simp only[c];exact eN
   simp only[c];exact eN
  .rw[j];simp only[AQ];omega
  .omega
  have k:t<l.length:=Do.1 (by assumption);have g:i=f.length:=by omega
  subst g;refine⟨⟨t+1,k⟩,by simp only;omega,AD [(61,.nm 61)] rfl rfl ?_ ?_⟩
  .simp only[hs];exact eN
  simp only[hs];exact eN
 have k:t=l.length:=by omega
 subst k;refine Fl [61] ?_;exact fI e [.tmp 2,.tmp 3] (by rw[w];exact eR)
end
section
attribute [local go_sem] cs0
def Ll (l:List ByteArray) (n:Nat):List FV:=(List.range n).map λk=>(l.getD (2*k) ByteArray.empty,l.getD (2*k+1) ByteArray.empty)
theorem Wr (l:List ByteArray) (n:Nat):Ll l (n+1)=Ll l n++[(l.getD (2*n) ByteArray.empty,l.getD (2*n+1) ByteArray.empty)]:=by simp[Ll,Yf]
theorem aK (l:List ByteArray) (n:Nat):(Ll l n).length=n:=by simp[Ll]
def eK (s:ByteArray):List ByteArray:=if Ac s ByteArray.empty=true then [] else [s]
def GT (n s:ByteArray) (l:List ByteArray):AL:=(n,eK s,Ll l (l.length / 2))
def A4O:AZ:={ ins:=[T9,T9,GP],pre:=λ(_,_,l,_)=>List.length l<=1000,out:=λ(n,s,l,_)=>[.p A1w (GT n s l)] }
theorem A8P:Ad Tryz.prog 121 A4O:=by
 refine fK [0,1,2,6,7,8,12,20] Tryz.func121 Tryz.ntmps121 AH ?_;rintro w0 O0 ⟨n,s,l,u⟩ b-hl;have hl:l.length<=1000:=hl;simp only[A4O,AM];repeat'(first|exact trivial|apply eS rfl|apply AB|refine rX b ?_ ?_|refine rC ?_ ?_<;>intro a<;>try(cases a;done))
 .have e:=a;refine Fl [14] ?_;refine AK (ι:={k:Nat//2*k<=l.length}) (λk=>⟨[(2,.p GP l),(6,.bp 6 [] 0),(7,.bp 7 [] 0),(8,.p (.int .i64) ((2*k.1:Nat):Int))],[(6,.box 158 true [.p T9 ByteArray.empty,.raw (.slice none 0 0),.raw (.slice none 0 0)]),(7,.box 158 true [.p T9 n,.p GP [s],.sr 36 pK 0 (Ll l k.1).length]),(36,.arr 161 pK (Ll l k.1))]⟩) (λk=>l.length-2*k.1) ⟨0,Is _⟩ (AD [(6,.nm 6),(7,.nm 7),(36,.nil)] rfl rfl ?_ ?_) (λk=>?_)
  .first|exact eN|refine eM ?_
   exact⟨rfl,rfl⟩
  .first|exact eN|refine eM ?_
  obtain⟨k,hk⟩:=k;have f:=aK l k;have d:=Wr l k;simp only;repeat'(first|exact trivial|apply eS rfl|apply AB|refine rX b ?_ ?_|refine rC ?_ ?_<;>intro a<;>try(cases a;done))
  .exact eV
  .refine⟨by exact eV,⟨by exact eV,by exact eV⟩,⟨by exact eV,by exact eV⟩,?_⟩;rw[f];simp only[AQ];exact eV
  .exact eV
  .have c:2*k+1<l.length:=by exact eV
   have e1:((2*k:Nat):Int)+1=((2*k+1:Nat):Int):=by omega
   refine⟨⟨k+1,by omega⟩,by simp only;omega,AD [(6,.nm 6),(7,.nm 7),(36,.nm 36)] rfl rfl ?_ ?_⟩
   .simp only[d];first|exact eN|refine eM ?_
    rw[e1];rfl
   simp only[d];first|exact eN|refine eM ?_
   show ((2*k:Nat):Int)+2=((2*(k+1):Nat):Int);omega
  have c:k=l.length / 2:=by exact eV
  refine Fl [36] ?_;have g:GT n s l=(n,[s],Ll l k):=by
   unfold GT eK;rw[<-c,As (by rw[show Ac s ByteArray.empty=false from e];simp)]
  exact fI b [.cell 6 158] (by rw[g];exact eR)
 have e:=a;refine AK (ι:={k:Nat//2*k<=l.length}) (λk=>⟨[(2,.p GP l),(6,.bp 6 [] 0),(7,.bp 7 [] 0),(8,.p (.int .i64) ((2*k.1:Nat):Int))],[(6,.box 158 true [.p T9 ByteArray.empty,.raw (.slice none 0 0),.raw (.slice none 0 0)]),(7,.box 158 true [.p T9 n,.p GP ([]:List ByteArray),.sr 36 pK 0 (Ll l k.1).length]),(36,.arr 161 pK (Ll l k.1))]⟩) (λk=>l.length-2*k.1) ⟨0,Is _⟩ (AD [(6,.nm 6),(7,.nm 7),(36,.nil)] rfl rfl ?_ ?_) (λk=>?_)
 .first|exact eN|refine eM ?_
  exact⟨rfl,rfl⟩
 .first|exact eN|refine eM ?_
 obtain⟨k,hk⟩:=k;have f:=aK l k;have d:=Wr l k;simp only;repeat'(first|exact trivial|apply eS rfl|apply AB|refine rX b ?_ ?_|refine rC ?_ ?_<;>intro a<;>try(cases a;done))
 .exact eV
 .refine⟨by exact eV,⟨by exact eV,by exact eV⟩,⟨by exact eV,by exact eV⟩,?_⟩;rw[f];simp only[AQ];exact eV
 .exact eV
 .have c:2*k+1<l.length:=by exact eV
  have e1:((2*k:Nat):Int)+1=((2*k+1:Nat):Int):=by omega
  refine⟨⟨k+1,by omega⟩,by simp only;omega,AD [(6,.nm 6),(7,.nm 7),(36,.nm 36)] rfl rfl ?_ ?_⟩
  .simp only[d];first|exact eN|refine eM ?_
   rw[e1];rfl
  simp only[d];first|exact eN|refine eM ?_
  show ((2*k:Nat):Int)+2=((2*(k+1):Nat):Int);omega
 have c:k=l.length / 2:=by exact eV
 refine Fl [36] ?_;have g:GT n s l=(n,([]:List ByteArray),Ll l k):=by
  unfold GT eK;rw[<-c,Bq (show Ac s ByteArray.empty=true from e)]
 exact fI b [.cell 6 158] (by rw[g];exact eR)
end
section
attribute [local go_sem] A4O cs0 cs1 cs2 cs3 cs4 cs5 cs6 cs7 cs8
def KJ:List AL:=[
 GT { data:=#[116,111,112] } { data:=#[] } [],
 GT { data:=#[108,105,115,116] } { data:=#[116,111,112] } [],
 GT { data:=#[99,111,110,115] } { data:=#[108,105,115,116] } [{ data:=#[70,73,82,83,84] },{ data:=#[116,111,112] },{ data:=#[82,69,83,84] },{ data:=#[108,105,115,116] }],
 GT { data:=#[110,117,108,108] } { data:=#[108,105,115,116] } [],
 GT { data:=#[100,108,105,115,116] } { data:=#[116,111,112] } [{ data:=#[76,73,83,84] },{ data:=#[108,105,115,116] },{ data:=#[76,65,83,84] },{ data:=#[108,105,115,116] }],
 GT { data:=#[105,110,100,101,120] } { data:=#[116,111,112] } [],
 GT { data:=#[104,97,110,100,108,101] } { data:=#[105,110,100,101,120] } [],
 GT { data:=#[101,118,101,110,116] } { data:=#[105,110,100,101,120] } [],
 GT { data:=#[101,110,116,105,116,121] } { data:=#[105,110,100,101,120] } [],
 GT { data:=#[114,101,108] } { data:=#[116,111,112] } [{ data:=#[76,65,66,69,76] },{ data:=#[104,97,110,100,108,101] }],
 GT { data:=#[113,101,113] } { data:=#[116,111,112] } [{ data:=#[72,73,71,72] },{ data:=#[104,97,110,100,108,101] },{ data:=#[76,79,87] },{ data:=#[104,97,110,100,108,101] }],
 GT { data:=#[115,101,109] } { data:=#[116,111,112] } [{ data:=#[84,79,80] },{ data:=#[104,97,110,100,108,101] },{ data:=#[73,78,68,69,88] },{ data:=#[105,110,100,101,120] },{ data:=#[82,69,76,83] },{ data:=#[100,108,105,115,116] },{ data:=#[67,79,78,83] },{ data:=#[100,108,105,115,116] }],
 GT { data:=#[115,105,103,110] } { data:=#[116,111,112] } [{ data:=#[83,69,77] },{ data:=#[115,101,109] },{ data:=#[65,82,71,83] },{ data:=#[108,105,115,116] }]]
def Mi:AZ:={ ins:=[],pre:=λ_=>True,out:=λ_=>[.p FA KJ] }
theorem qJ:Ad Tryz.prog 63 Mi:=by
 refine fKP [0] [3,6,12,14,16,18,20] [] Tryz.func63 Tryz.ntmps63 (AF A8P AH) ?_;rintro w0 O0 u a - -;simp only[Mi,AM];repeat'(first|exact trivial|apply eS rfl|refine rX a ?_ ?_)
 exact fI a [.tmp 0] (by unfold KJ;exact eR)
end
section
attribute [local go_sem] Wq SF A4H SG
abbrev Hd:=ByteArray×List Int×List Int×List (Int×Int)
abbrev AG:=List Hd×List Wp
def F9 (l:List AU) (v:List (List (Int×Int))) (n:Nat):List Hd:=(List.range n).map λi=>((l.getD i c0).1,(l.getD i c0).2,kT l (i:Int),v.getD i [])
theorem qK (l:List AU) (v:List (List (Int×Int))) (n:Nat):F9 l v (n+1)=F9 l v n++[((l.getD n c0).1,(l.getD n c0).2,kT l (n:Int),v.getD n [])]:=by simp[F9,Yf]
theorem Ni (l:List AU) (v:List (List (Int×Int))) (n:Nat):(F9 l v n).length=n:=by simp[F9]
def Ic (d:List AL):AG:=(F9 (A8 d) (Bm d).1 (A8 d).length,(Di d).1)
def BD (d:List AL):AG×Int:=if (Bm d).2≠0 then (([],[]),(Bm d).2) else (Ic d,0)
def KK:AZ:={ ins:=[FA],pre:=λ_=>True,out:=λ(d,_)=>[.p Du (BD d).1,.p Fm (BD d).2] }
theorem qL:Ad Tryz.prog 62 KK:=by
 refine fK [0,2,3,4,5,6,8,9,10,18,29] Tryz.func62 Tryz.ntmps62 (AF qI (AF Q0 (AF A8L (AF kZ AH)))) ?_;rintro w0 O0 ⟨d,u⟩ b - -;simp only[KK,AM];repeat'(first|exact trivial|apply eS rfl|refine rX b ?_ ?_|refine rC ?_ ?_<;>intro a<;>try(cases a;done))
 .have h1:BD d=(([],[]),(Bm d).2):=by unfold BD;rw[Bq a]
  exact fI b [.cell 2 31,.tmp 3] (by rw[h1];exact eR)
 have c:(Bm d).2=0:=by simpa using a
 have f:Be d=0:=by
  unfold Bm at c;split at c
  .rename_i h;exact absurd c h
  rename_i h;exact If h
 obtain⟨s,w,t⟩:=DP f;obtain⟨j,k,hl⟩:=CA s;have g:BD d=(Ic d,0):=by unfold BD;rw[As (by rw[c];simp)]
 have q:(Bm d).1.length=(A8 d).length:=by
  unfold Bm;rw[As (by rw[f];simp)];exact aJ _ _ _ _
 have r:=Ph j;have m:(A8 d).length<=256:=by rw[Ib];exact k
 unfold Ic at g;rw[hl];generalize A8 d=l at *;generalize (Bm d).1=v at *;refine AK (ι:={n:Nat//n<=l.length}) (λn=>⟨[(0,.p FA d),(2,.bp 2 [] 0),(4,.p A7o v),(6,.p KF l),(8,.bp 8 [] 0),(9,.p (.int .i64) (n.1:Int))],[(2,.box 31 true [.raw (.slice none 0 0),.raw (.slice none 0 0)]),(8,.box 31 true [.sr 53 pL 0 (F9 l v n.1).length,.raw (.slice none 0 0)]),(53,.arr 144 pL (F9 l v n.1))]⟩) (λn=>l.length-n.1) ⟨0,Is _⟩ (AD [(2,.nm 2),(8,.nm 8),(53,.nil)] rfl rfl ?_ ?_) (λn=>?_)
 .refine eM ?_;exact⟨rfl,rfl⟩
 .exact eN
 obtain⟨n,hn⟩:=n;have o:=Ni l v n;have i:=qK l v n;simp only;repeat'(first|exact trivial|apply eS rfl|apply AB|refine rX b ?_ ?_|refine rC ?_ ?_<;>intro a<;>try(cases a;done))
 .refine⟨a,a,⟨a,m,r⟩,by rw[q];exact a,?_⟩;rw[o];simp only[AQ];omega
 .omega
 .have e:n<l.length:=Do.1 a;refine⟨⟨n+1,e⟩,by simp only;omega,AD [(2,.nm 2),(8,.nm 8),(53,.nm 53)] rfl rfl ?_ ?_⟩
  .simp only[i];exact eN
  simp only[i];exact eN
 have e:n=l.length:=by omega
 subst e;refine Fl [53] ?_;exact fI b [.cell 2 31,.tmp 3] (by rw[g];exact eR)
def HE (d:List AL):AG:=if d.length<=20/\(BD d).2=0 then (BD d).1 else (BD KJ).1
end
section
def qM:AZ:={ ins:=[BN,T3],pre:=λ(_,i,_)=>(0:Int)<=i,out:=λ(b,i,_)=>[.p Qp (GS b i)],lend:=true }
attribute [local go_sem] qM
theorem A4P:Ad Tryz.prog 175 qM:=by
 refine fK [0,1,4,8] Tryz.func175 Tryz.ntmps175 AH ?_;rintro w0 O0 ⟨b,i,u⟩ c-hi;simp only[qM,AM];repeat'(first|exact trivial|apply eS rfl|refine rX c ?_ ?_|refine rC ?_ ?_<;>intro a<;>try(cases a;done))
 .exact⟨hi,a⟩
 .have h1:GS b i=b.getD i.toNat 0:=by unfold GS;rw[Bq a]
  exact fI c [.tmp 4] (by rw[h1];exact eR)
 have h1:GS b i=0:=by unfold GS;rw[As (AAm.2 a)]
 exact fI c [.tmp 4] (by rw[h1];exact eR)
def Mj (a b:List Int):Bool:=(List.range a.length).all λi=>B7 .andNot .u64 (a.getD i 0) (GS b (i:Int))==0
def k4 (a b:List Int) (n:Nat):Bool:=(List.range n).all λi=>B7 .andNot .u64 (a.getD i 0) (GS b (i:Int))==0
theorem qN (a b:List Int) (n:Nat):k4 a b (n+1)=(k4 a b n&&B7 .andNot .u64 (a.getD n 0) (GS b (n:Int))==0):=by
 unfold k4;rw[Yf,AF3];simp
def Q1:AZ:={ ins:=[BN,BN],pre:=λ_=>True,out:=λ(a,b,_)=>[.p .bool (Mj a b)],lend:=true }
attribute [local go_sem] Q1
theorem Ws:Ad Tryz.prog 133 Q1:=by
 refine fK [0,1,4,5,6,7,8,9,10,19] Tryz.func133 Tryz.ntmps133 (AF A4P AH) ?_;rintro w0 O0 ⟨a,b,u⟩ e ⟨⟨g,-⟩,-⟩ -;simp only[AQ]at g;simp only[Q1,AM];repeat'(first|exact trivial|apply eS rfl|refine rX e ?_ ?_)
 have h:Mj a b=k4 a b a.length:=rfl;refine AK (ι:={n:Nat//n<=a.length/\k4 a b n=true}) (λn=>⟨[(1,.p BN b),(7,.p BN a),(8,.p (.int .i64) (a.length:Int)),(9,.p (.int .i64) (n.1:Int))],[]⟩) (λn=>a.length-n.1) ⟨0,Is _,rfl⟩ (eW []) (λn=>?_)
 obtain⟨n,hn,f⟩:=n;have hs:=qN a b n;simp only;repeat'(first|exact trivial|apply eS rfl|apply AB|refine rX e ?_ ?_|refine rC ?_ ?_<;>intro d<;>try(cases d;done))
 .exact d
 .have c:n<a.length:=by exact eV
  have h1:Mj a b=false:=by
   unfold Mj;rw[AF2];exact⟨n,Ue.2 c,by simpa using d⟩
  exact fI e [.tmp 4] (by rw[h1];exact eR)
 .exact eV
 .have c:n<a.length:=by exact eV
  refine⟨⟨n+1,c,?_⟩,by simp only;omega,AD [] rfl rfl ?_ ?_⟩
  .rw[hs,f];simpa using d
  .exact eN
  exact eN
 have c:n=a.length:=by exact eV
 subst c;exact fI e [.tmp 4] (by rw[h,f];exact eR)
abbrev Y0:Hd:=(ByteArray.empty,[],[],[])
def A1 (h:AG) (a b:Int):Bool:=Mj (h.1.getD b.toNat Y0).2.1 (h.1.getD a.toNat Y0).2.1
def Wu:AZ:={ ins:=[Du,T3,T3],pre:=λ(h,a,b,_)=>((0:Int)<=a/\a<(List.length (h:AG).1:Int))/\((0:Int)<=b/\b<(List.length (h:AG).1:Int)),out:=λ(h,a,b,_)=>[.p .bool (A1 h a b)],lend:=true }
theorem eL:Ad Tryz.prog 84 Wu:=by
 refine fK [0,1,2,3,6] Tryz.func84 Tryz.ntmps84 (AF Ws AH) ?_;rintro w0 O0 ⟨⟨e,hf⟩,a,b,u⟩ c-⟨ha,d⟩;simp only[Wu,AM];repeat'(first|exact trivial|apply eS rfl|refine rX c ?_ ?_)
 .exact⟨d,ha⟩
 exact fI c [.tmp 6] (by unfold A1;exact eR)
end
def Hj (x:Int×Int) (s:List (Int×Int)):Nat->Nat
 | 0=>0
 | n+1=>if x.1<(s.getD n (0,0)).1 then Hj x s n else n+1
def Ny (s:List (Int×Int)) (x:Int×Int):List (Int×Int):=s.take (Hj x s s.length)++[x]++s.drop (Hj x s s.length)
def Aa (l:List (Int×Int)):List (Int×Int):=l.foldl Ny []
theorem U0 (x:Int×Int) (s:List (Int×Int)):∀n,Hj x s n<=n
 | 0=>NO _
 | n+1=>by
  unfold Hj;have:=U0 x s n;split<;>omega
theorem A4Q (s:List (Int×Int)) (x:Int×Int):(Ny s x).length=s.length+1:=by
 have:=U0 x s s.length;simp[Ny];omega
theorem Hk (l:List (Int×Int)) (x:Int×Int):Aa (l++[x])=Ny (Aa l) x:=by simp[Aa]
theorem Mk:∀(l s:List (Int×Int)),(l.foldl Ny s).length=s.length+l.length
 | [],s=>by simp
 | x :: l,s=>by simp[Mk l,A4Q];omega
theorem Ck (l:List (Int×Int)):(Aa l).length=l.length:=by simp[Aa,Mk]
def Q2:AZ:={ ins:=[DF],pre:=λ(l,_)=>l.length<=1000000,out:=λ(l,_)=>[.own 106 AW (Aa l)] }
theorem aL:Ad Tryz.prog 152 Q2:=by
 refine fK [0,2,3,4,5,6,10,30] Tryz.func152 Tryz.ntmps152 AH ?_;rintro w0 O0 ⟨l,u⟩ c n i;simp only[Q2]at i;simp only[Q2,AM];repeat'(first|exact trivial|apply eS rfl|refine rX c ?_ ?_)
 refine AK (ι:={p:Nat//p<=l.length}) (λk=>⟨[(0,.p DF l),(3,.sr 10 AW 0 (Aa (l.take k.1)).length),(4,.p (.int .i64) (k.1:Int))],[(10,.arr 106 AW (Aa (l.take k.1)))]⟩) (λk=>l.length-k.1) ⟨0,by omega⟩ (AD [(10,.nil)] rfl rfl ?_ ?_) (λk=>?_)
 .refine eM ?_;rfl
 .refine eM ?_;rfl
 obtain⟨k,f⟩:=k;have m:(Aa (l.take k)).length=k:=by rw[Ck,OS];exact AAS f
 repeat'(first|exact trivial|apply eS rfl|refine rX c ?_ ?_|refine rC ?_ ?_<;>intro b<;>try(cases b;done))
 .refine AK (ι:={q:Nat//q<=(Aa (l.take k)).length/\Hj (l.getD k (0,0)) (Aa (l.take k)) q=Hj (l.getD k (0,0)) (Aa (l.take k)) (Aa (l.take k)).length}) (λq=>⟨[(0,.p DF l),(3,.sr 10 AW 0 (Aa (l.take k)).length),(4,.p (.int .i64) (k:Int)),(5,.p (.int .i64) (q.1:Int))],[(10,.arr 106 AW (Aa (l.take k)))]⟩) (λq=>q.1) ⟨(Aa (l.take k)).length,by simp⟩ (eW [(10,.nm 10)]) (λq=>?_)
  obtain⟨q,j,hp⟩:=q;have g:k<l.length:=by omega
  have e1:=l.length_take_le k;have e2:(List.take q (Aa (List.take k l))).length=q:=by rw[OS];exact AAS j
  repeat'(first|exact trivial|apply eS rfl|apply AB|refine rX c ?_ ?_|refine rC ?_ ?_<;>intro b<;>try(cases b;done))
  .exact eV
  .exact eV
  .obtain⟨h1,a⟩:=b;obtain⟨q,rfl⟩:∃r,q=r+1:=⟨q-1,by omega⟩;have d:((q+1:Nat):Int)-1=(q:Int):=by omega
   refine⟨⟨q,by omega,?_⟩,Nat.lt_succ_self q,AD [(10,.nm 10)] rfl rfl ?_ ?_⟩
   .rw[<-hp];simp only[Hj];rw[d,UQ]at a;rw[Bq a]
   .exact eN
   refine eM ?_;show (q:Int)+1-1=q;omega
  .refine⟨by exact eV,?_⟩;rw[e2];unfold AQ;omega
  .refine⟨by exact eV,?_⟩;rw[e2];simp only[AQ];omega
  .refine⟨by exact eV,?_⟩;rw[e2];simp only[AQ,YY];omega
  .exact eV
  have h:Hj (l.getD k (0,0)) (Aa (l.take k)) q=q:=by
   cases q with
   | zero=>rfl
   | succ q =>
    have d:((q+1:Nat):Int)-1=(q:Int):=by omega
    have:=b (by omega);rw[d,UQ]at this;simp only[Hj];rw[As (by omega)]
  have h1:=Av l (0,0) g;have a:Aa (l.take (k+1))=_:=(Yp Aa h1).trans (Hk _ _);unfold Ny at a;rw[<-hp,h]at a;refine⟨⟨k+1,by exact eV⟩,by simp only;exact eV,AD [(10,.nm 37)] rfl rfl ?_ ?_⟩
  .refine eM ?_;exact a.symm
  refine eM ?_;have e:=Yp List.length a;rw[BY,BY]at e;exact e.symm
 have hk:l.take k=l:=At (by exact eV);refine oW c (.inl rfl) (rv:=.tmp 2) rfl ?_;simp only[OL,K7,J0,go_sem,Nat.reduceEqDiff,reduceCtorEq,Nat.reduceAdd,Nat.reduceSub,Nat.reduceMul,Nat.reduceLeDiff,Nat.reduceLT,Int.reduceLE,Int.reduceToNat,Int.reduceNeg,↓reduceIte];rw[hk];first|rfl|exact⟨rfl,rfl⟩|exact⟨rfl,rfl,rfl⟩
section
attribute [local go_sem] Q2
abbrev AC:=Int×List (Int×Int)
def Dz (f:List AC):Nat->List Int×List Int->Int->List Int×List Int
 | 0,s,_=>s
 | k+1,s,n=>(Aa (f.getD n.toNat (0,[])).2).foldl (λs a=>if s.1.getD a.2.toNat 0<0 then Dz f k s a.2 else s) (s.1.set n.toNat (s.2.length:Int),s.2++[n])
def Lu (l:List Int):Nat:=l.countP (λx=>decide (x<0))
def AN (f:List AC):Prop:=f.length<=100000/\∀x∈f,x.2.length<=100000/\∀a∈x.2,0<=a.2/\a.2<(f.length:Int)
def UG (f:List AC) (s:List Int×List Int):Prop:=s.1.length=f.length/\s.2.length+Lu s.1<=f.length
theorem A4R {l:List Int} {n:Nat} {v:Int} (hn:n<l.length) (a:l.getD n 0<0) (c:0<=v):Lu (l.set n v)+1=Lu l:=by
 induction l generalizing n with
 | nil=>simp at hn
 | cons x r b =>
  cases n with
  | zero =>
   have hx:x<0:=by simpa using a
   have:¬v<0:=by omega
   simp[Lu,ABQ,hx,this]
  | succ n =>
   have h1:=b (n:=n) (by simpa using hn) (by simpa using a);simp only[Lu,AG2,ABQ]at h1 ⊢;omega
theorem qO {f:List AC} {s:List Int×List Int} {n:Int} (h:UG f s) (d:0<=n) (hn:n<f.length) (b:s.1.getD n.toNat 0<0) :
  UG f (s.1.set n.toNat (s.2.length:Int),s.2++[n])/\Lu (s.1.set n.toNat (s.2.length:Int))+1=Lu s.1:=by
 obtain⟨h1,c⟩:=h;have a:=A4R (l:=s.1) (n:=n.toNat) (v:=(s.2.length:Int)) (by omega) b (by omega);refine⟨⟨by simpa using h1,?_⟩,a⟩;simp only[BY,IS];omega
theorem A1T (s:List (Int×Int)) (x:Int×Int):(Ny s x).Perm (x :: s):=by
 unfold Ny;refine(List.perm_append_comm.append_right _).trans ?_;simp
theorem Lm:∀(l s:List (Int×Int)),(l.foldl Ny s).Perm (l++s)
 | [],s=>List.Perm.refl _
 | x :: l,s=>by
  refine(Lm l (Ny s x)).trans ?_;refine(List.Perm.append_left l (A1T s x)).trans ?_;exact AGn
theorem Ez (l:List (Int×Int)):(Aa l).Perm l:=by
 have:=Lm l [];simpa[Aa] using this
theorem Ml {f:List AC} (hf:AN f) (n:Int):List.length (f.getD n.toNat (0,[])).2<=100000:=by
 by_cases h:n.toNat<f.length
 .have a:f.getD n.toNat (0,[])∈f:=by
   rw[AS,AT h];exact YZ h
  exact(hf.2 _ a).1
 rw[AS,UV (by omega)];simp
theorem VA {f:List AC} (hf:AN f) {n:Int} {a:Int×Int} (ha:a∈Aa (f.getD n.toNat (0,[])).2):0<=a.2/\a.2<f.length:=by
 have ha:=(Ez _).mem_iff.1 ha;by_cases h:n.toNat<f.length
 .have b:f.getD n.toNat (0,[])∈f:=by
   rw[AS,AT h];exact YZ h
  exact(hf.2 _ b).2 a ha
 rw[AS,UV (by omega)]at ha;simp at ha
def EV (f:List AC) (k:Nat) (s:List Int×List Int) (a:Int×Int):List Int×List Int:=if s.1.getD a.2.toNat 0<0 then Dz f k s a.2 else s
theorem Fg (f:List AC) (k:Nat) (s:List Int×List Int) (n:Int):Dz f (k+1) s n=(Aa (f.getD n.toNat (0,[])).2).foldl (EV f k) (s.1.set n.toNat (s.2.length:Int),s.2++[n]):=rfl
theorem VB {f:List AC} {k:Nat} (h:∀(s:List Int×List Int) (n:Int),UG f s->0<=n->n<f.length->s.1.getD n.toNat 0<0->UG f (Dz f k s n)/\Lu (Dz f k s n).1<=Lu s.1) :
  ∀(l:List (Int×Int)) (t:List Int×List Int),(∀a∈l,0<=a.2/\a.2<(f.length:Int))->UG f t->UG f (l.foldl (EV f k) t)/\Lu (l.foldl (EV f k) t).1<=Lu t.1
 | [],t,_,c=>⟨c,NO _⟩
 | a :: l,t,hl,c=>by
  simp only[UN];by_cases g:t.1.getD a.2.toNat 0<0
  .obtain⟨i,j⟩:=h t a.2 c (hl a (by simp)).1 (hl a (by simp)).2 g;have e:EV f k t a=Dz f k t a.2:=Bq g;rw[e];obtain⟨m,o⟩:=VB h l _ (λb d=>hl b (by simp[d])) i;exact⟨m,UR o j⟩
  have e:EV f k t a=t:=As g;rw[e];exact VB h l t (λb d=>hl b (by simp[d])) c
theorem SH {f:List AC} (hf:AN f):∀(k:Nat) (s:List Int×List Int) (n:Int),UG f s->0<=n->n<f.length->s.1.getD n.toNat 0<0->UG f (Dz f k s n)/\Lu (Dz f k s n).1<=Lu s.1
 | 0,s,n,h,_,_,_=>⟨h,NO _⟩
 | k+1,s,n,h,h0,h1,d=>by
  obtain⟨e,g⟩:=qO h h0 h1 d;obtain⟨b,c⟩:=VB (SH hf k) _ _ (λa ha=>VA hf ha) e;rw[Fg];exact⟨b,by simp only at c g;omega⟩
theorem KL {α β:Type} (g:β->α->β) (l:List α) (d:α) (t:β) {i:Nat} (hi:i<l.length):(l.take (i+1)).foldl g t=g ((l.take i).foldl g t) (l.getD i d):=by
 rw[Av l d hi,AAp];rfl
def Ln (f:List AC) (s:List Int×List Int):List (Nat×Obj):=[(1,.box 184 true [.p DC f,.sr 2 T3 0 s.1.length,.sr 3 T3 0 s.2.length]),(2,.arr 3 T3 s.1),(3,.arr 3 T3 s.2)]
theorem A4S (f:List AC) (hf:AN f):∀(k:Nat) (s:List Int×List Int) (n:Int),UG f s->0<=n->n<f.length->s.1.getD n.toNat 0<0->Lu s.1<=k ->
  BA Tryz.prog 151 [.bp 1 [] 0,.p T3 n] (Ln f s) [1] (λres M=>res=.raw (.tuple #[])/\M=Ln f (Dz f k s n)):=by
 intro k;induction k with
 | zero =>
  intro s n h0 h1 u B N;obtain⟨_,O⟩:=qO h0 h1 u B;omega
 | succ k J =>
  intro s n A w m x hk;obtain⟨num,g⟩:=s;obtain⟨t,v⟩:=qO A w m x;obtain⟨G,H⟩:=A;simp only at G H x t v hk;refine Ki [0,1,4,5,40,54] [] [] Tryz.func151 Tryz.ntmps151 (AF aL AH) ?_;intro w0 K O0 ρ0 c Q R;simp only[Ln,Aj];repeat'(first|exact trivial|apply eS rfl|refine rX c ?_ ?_)
  .exact eV
  .have:=hf.1;simp only[AQ];omega
  .have I:=Ml hf n;exact⟨⟨w,m⟩,UR I (by omega)⟩
  have l:=λa (ha:a∈Aa (f.getD n.toNat (0,[])).2)=>VA hf ha;have D:(Aa (f.getD n.toNat (0,[])).2).length<=100000:=by rw[Ck];exact Ml hf n
  generalize C:Aa (f.getD n.toNat (0,[])).2=L at l D;generalize o:(num.set n.toNat (g.length:Int),g++[n])=s1 at t;have F:∀i,UG f ((L.take i).foldl (EV f k) s1)/\Lu ((L.take i).foldl (EV f k) s1).1<=Lu s1.1:=λi=>VB (SH hf k) _ _ (λa ha=>l a (Yb ha)) t;have m:num.set n.toNat (g.length:Int)=s1.1:=by rw[<-o]
  have P:g++[n]=s1.2:=by rw[<-o]
  rw[m]at v;refine AK (ι:={i:Nat//i<=L.length}) (λi=>⟨[(0,.bp 1 [] 0),(1,.p T3 n),(4,.p DF L),(5,.p (.int .i64) (i.1:Int))],Ln f ((L.take i.1).foldl (EV f k) s1)⟩) (λi=>L.length-i.1) ⟨0,by omega⟩ (ACi [36] (AD [(1,.nm 1),(2,.nm 2),(3,.nm 3)] rfl rfl ?_ ?_)) (λi=>?_)
  .simp only[Ln];refine eM ?_;simp only[AGc];rw[<-o];simp
  .exact eN
  obtain⟨i,hi⟩:=i;obtain⟨r,E⟩:=F i;have q:=λ(h:i<L.length)=>KL (EV f k) L (0,0) s1 h;generalize z:(L.take i).foldl (EV f k) s1=b at r E q;simp only[Ln];repeat'(first|exact trivial|apply eS rfl|apply AB|refine rX c ?_ ?_|refine rC ?_ ?_<;>intro j<;>try(cases j;done))
  .have d:i<L.length:=by exact eV
   have:=l _ (AE L (0,0) d);obtain⟨h1,u⟩:=r;refine⟨by exact eV,this.1,?_⟩;rw[h1];exact this.2
  .have d:i<L.length:=by exact eV
   have y:=l _ (AE L (0,0) d);refine cP 6 c ?_ ?_
   .exact eV
   refine rM c (J b (L.getD i (0,0)).2 r y.1 y.2 (by simpa using j) (by omega)) [(1,.nm 1),(2,.nm 2),(3,.nm 3)] [2,3] ?_ ?_ ?_
   .exact eN
   .simp only[Ln];exact eN
   rintro _ _ ⟨rfl,rfl⟩;refine⟨[(1,.nm 1),(2,.nm 2),(3,.nm 3)],.raw (.tuple #[]),Ln f (Dz f k b (L.getD i (0,0)).2),rfl,rfl,?_,?_,rfl,rfl,Bk ?_⟩
   .simp only[Ln];exact eN
   .exact eN
   repeat'(first|apply eS rfl|apply AB|refine rX c ?_ ?_)
   .exact eV
   have e:EV f k b (L.getD i (0,0))=Dz f k b (L.getD i (0,0)).2:=Bq (by simpa using j);refine⟨⟨i+1,by omega⟩,by simp only;omega,AD [(1,.nm 1),(2,.nm 2),(3,.nm 3)] rfl rfl ?_ ?_⟩
   .simp only[Ln,q d,e];exact eN
   exact eN
  .exact eV
  .have d:i<L.length:=by exact eV
   have e:EV f k b (L.getD i (0,0))=b:=As (by simpa using j);refine⟨⟨i+1,by omega⟩,by simp only;omega,AD [(1,.nm 1),(2,.nm 2),(3,.nm 3)] rfl rfl ?_ ?_⟩
   .simp only[q d,e];exact eN
   exact eN
  have hk:L.take i=L:=At (by exact eV);rw[hk]at z;have h1:Dz f (k+1) (num,g) n=b:=by rw[Fg,C,<-z,<-o]
  rw[h1];exact fM c [] (.raw (.tuple #[])) rfl ⟨rfl,rfl⟩
end
section
attribute [local go_sem] Wu
def Ao (l:List (Int×Int)) (e:Int):Int:=match l with
 | []=>-1
 | a :: l=>if a.1=e then a.2 else Ao l e
theorem aM (e:Int) (l:List (Int×Int)) {k:Nat} (h:k<l.length):Ao (l.drop k) e=if (l.getD k (0,0)).1=e then (l.getD k (0,0)).2 else Ao (l.drop (k+1)) e:=by
 rw[On h];have e:l.getD k (0,0)=l[k]:=by simp[AS,h]
 rw[e];rfl
def VC:AZ:={ ins:=[GR,T3],pre:=λ_=>True,out:=λ(x,e,_)=>[.p T3 (Ao x.2 e)],lend:=true }
attribute [local go_sem] VC
theorem A1U:Ad Tryz.prog 131 VC:=by
 refine fK [0,1,2,4,6,8,9,10,11,17] Tryz.func131 Tryz.ntmps131 AH ?_;rintro w0 O0 ⟨⟨ty,l⟩,e,u⟩ c ⟨⟨-,hl,-⟩,-⟩ -;simp only[AQ]at hl;simp only[VC,AM];repeat'(first|exact trivial|apply eS rfl|refine rX c ?_ ?_)
 refine AK (ι:={k:Nat//k<=l.length/\Ao (l.drop k) e=Ao l e}) (λk=>⟨[(1,.p T3 e),(8,.p DF l),(9,.p (.int .i64) (l.length:Int)),(10,.p (.int .i64) (k.1:Int))],[]⟩) (λk=>l.length-k.1) ⟨0,Is _,rfl⟩ (eW []) (λk=>?_)
 obtain⟨k,hk,hf⟩:=k;have d:=λh:k<l.length=>aM e l h;simp only;repeat'(first|exact trivial|apply eS rfl|apply AB|refine rX c ?_ ?_|refine rC ?_ ?_<;>intro b<;>try(cases b;done))
 .exact b
 .have a:k<l.length:=by exact eV
  rw[d a,Bq b]at hf;exact fI c [.tmp 4] (by rw[<-hf];exact eR)
 .exact eV
 .have a:k<l.length:=by exact eV
  rw[d a,As (by simpa using b)]at hf;exact⟨⟨k+1,a,hf⟩,by simp only;omega,eW []⟩
 have a:l.drop k=[]:=TO (by exact eV);rw[a]at hf;exact fI c [.tmp 4] (by rw[<-hf];first|exact eR|refine Uv ?_;rfl)
end
section
attribute [local go_sem] Wu VC
def JR (n i:Nat):List Int:=(List.range n).map λj=>if j<i then -1 else 0
theorem A1V (n i:Nat):(JR n i).length=n:=by simp[JR]
theorem qP (n:Nat):JR n 0=List.replicate n 0:=by
 apply Yd
 .simp[JR]
 intro j h1 a;simp[JR]
theorem A1W (n i:Nat):(JR n i).set i (-1)=JR n (i+1):=by
 apply Yd
 .simp[JR]
 intro j h1 b;simp only[JR,AGo,AAn,AAj];split
 .rename_i e;rw[Bq (by omega)]
 rename_i e;by_cases a:j<i
 .rw[Bq a,Bq (by omega)]
 rw[As a,As (by omega)]
theorem A1X (n:Nat):JR n n=List.replicate n (-1):=by
 apply Yd
 .simp[JR]
 intro j h1 a;simp only[JR,AAn,AAj,List.getElem_replicate];rw[Bq (by simpa[JR] using h1)]
def Mm (bl:List (Int×Int)) (m:List Int) (x:Int×Int):Bool:=decide (Ao bl x.1<0)||decide (0<=m.getD x.2.toNat 0)&&!(m.getD x.2.toNat 0==Ao bl x.1)
def E0 (bl:List (Int×Int)):List (Int×Int)->List Int->Option (List Int)
 | [],m=>some m
 | x :: l,m=>if Mm bl m x=true then none else E0 bl l (m.set x.2.toNat (Ao bl x.1))
def Hl (h:AG) (b:List AC) (n:AC) (k:Int):Bool:=decide (k<0)||!A1 h n.1 (b.getD k.toNat (0,[])).1
def GA (h:AG) (b:List AC):List AC->Nat->List Int->Option (List Int)
 | [],_,m=>some m
 | n :: r,i,m=>if Hl h b n (m.getD i 0)=true then none else match E0 (b.getD (m.getD i 0).toNat (0,[])).2 n.2 m with
  | none=>none
  | some a=>GA h b r (i+1) a
def eO (h:AG) (a b:List AC):Option (List Int):=GA h b a 0 ((List.replicate a.length (-1)).set 0 0)
theorem eQ (bl l:List (Int×Int)) (m:List Int) {k:Nat} (h:k<l.length):E0 bl (l.drop k) m=if Mm bl m (l.getD k (0,0))=true then none else E0 bl (l.drop (k+1)) (m.set (l.getD k (0,0)).2.toNat (Ao bl (l.getD k (0,0)).1)):=by
 rw[On h];have e:l.getD k (0,0)=l[k]:=by simp[AS,h]
 rw[e];rfl
theorem Jn (h:AG) (b a:List AC) (m:List Int) {i:Nat} (hi:i<a.length):GA h b (a.drop i) i m=if Hl h b (a.getD i (0,[])) (m.getD i 0)=true then none else match E0 (b.getD (m.getD i 0).toNat (0,[])).2 (a.getD i (0,[])).2 m with
  | none=>none
  | some c=>GA h b (a.drop (i+1)) (i+1) c:=by
 rw[On hi];have e:a.getD i (0,[])=a[i]:=by simp[AS,hi]
 rw[e];rfl
structure eU (a b:List AC) (m:List Int):Prop where
 len:m.length=a.length
 rng:∀x∈m,x<(b.length:Int)
theorem LN {n:Int} (hn:0<=n):∀ {l:List (Int×Int)} (e:Int),(∀x∈l,x.2<n)->Ao l e<n
 | [],_,_=>by simp only[Ao];omega
 | x :: l,e,h=>by
  simp only[Ao];split
  .exact h x (by simp)
  exact LN hn e (λy a=>h y (by simp[a]))
theorem eU.set {a b:List AC} {m:List Int} (h:eU a b m) (k:Nat) {v:Int} (c:v<(b.length:Int)):eU a b (m.set k v):=by
 refine⟨by simp[h.len],λx hx=>?_⟩;rcases AAy hx with hx|hx
 .exact h.rng x hx
 rw[hx];exact c
theorem eU.get {a b:List AC} {m:List Int} (h:eU a b m) (c:0<b.length) (k:Nat):m.getD k 0<(b.length:Int):=by
 rw[AS];cases hh:m[k]? with
 | none=>show (0:Int)<_;omega
 | some x=>exact h.rng x (Yk hh)
def CP (h:AG) (f:List AC):Prop:=∀x∈f,0<=x.1/\x.1<(h.1.length:Int)
theorem EC {f:List AC} (hf:AN f) (k:Nat):∀x∈(f.getD k (0,[])).2,0<=x.2/\x.2<(f.length:Int):=by
 intro x hx;by_cases h:k<f.length
 .exact(hf.2 _ (AE f (0,[]) h)).2 x hx
 rw[AS,UV (by omega)]at hx;cases hx
def AB9:AZ:={ ins:=[Du,DC,DC],pre:=λ(h,a,b,_)=>AN a/\0<List.length a/\AN b/\0<List.length b/\CP h a/\CP h b,out:=λ(h,a,b,_)=>[.p Ft ((eO h a b).getD []),.p .bool (eO h a b).isSome] }
attribute [local go_sem] AB9
theorem ABa:Ad Tryz.prog 81 AB9:=by
 refine fK [0,1,2,3,4,5,6,7,8,9,10,11,12,13,15,16,22,23,24,33,34,35,36,58,60,61,62,63,92,101] Tryz.func81 Tryz.ntmps81 (AF eL (AF A1U AH)) ?_;rintro w0 O0 ⟨⟨e,hf⟩,a,b,u⟩ n-⟨z,I,K,C,R,S⟩;have V:=z.1;simp only[AB9,AM];repeat'(first|exact trivial|apply eS rfl|refine rX n ?_ ?_)
 refine Ev.ent (σ':=⟨[(3,.bp 3 [] 0),(4,.bp 4 [] 0),(5,.bp 5 [] 0)],[(3,.box 31 true [.p ZB e,.p dQ hf]),(4,.box 25 true [.p Fq a]),(5,.box 25 true [.p Fq b])]⟩) ?_ (AD [(3,.nm 3),(4,.nm 4),(5,.nm 5)] rfl rfl ?_ ?_)
 .refine A41 A43 ?_;repeat'(first|exact trivial|apply eS rfl|refine rX n ?_ ?_)
  .simp only[AQ];omega
  refine AK (ι:={i:Nat//i<=a.length}) (λi=>⟨[(3,.bp 3 [] 0),(4,.bp 4 [] 0),(5,.bp 5 [] 0),(8,.sr 20 T3 0 a.length),(22,.p (.int .i64) (a.length:Int)),(23,.p (.int .i64) (i.1:Int))],[(3,.box 31 true [.p ZB e,.p dQ hf]),(4,.box 25 true [.p Fq a]),(5,.box 25 true [.p Fq b]),(20,.arr 3 T3 (JR a.length i.1))]⟩) (λi=>a.length-i.1) ⟨0,Is _⟩ (AD [(3,.nm 3),(4,.nm 4),(5,.nm 5),(20,.nm 20)] rfl rfl ?_ ?_) (λi=>?_)
  .refine eM ?_;rw[qP]
  .exact eN
  obtain⟨i,hi⟩:=i;have X:=A1V a.length i;simp only;repeat'(first|exact trivial|apply eS rfl|apply AB|refine rX n ?_ ?_|refine rC ?_ ?_<;>intro c<;>try(cases c;done))
  .exact c
  .omega
  .have f:i<a.length:=Do.1 c;refine⟨⟨i+1,f⟩,by simp only;omega,AD [(3,.nm 3),(4,.nm 4),(5,.nm 5),(20,.nm 20)] rfl rfl ?_ ?_⟩
   .simp only[<-A1W];exact eN
   exact eN
  .exact Do.2 I
  have f:i=a.length:=by omega
  subst f;rw[A1X];have O:eU a b ((List.replicate a.length (-1)).set 0 0):=eU.set ⟨by simp,λx hx=>by rw[(AG4.1 hx).2];omega⟩ 0 (by omega);have P:eO (e,hf) a b=GA (e,hf) b (a.drop 0) 0 ((List.replicate a.length (-1)).set 0 0):=rfl;generalize (List.replicate a.length (-1:Int)).set 0 0=T at *;refine A42 ?_;repeat'(first|exact trivial|apply eS rfl|refine rX n ?_ ?_)
  refine AK (ι:={x:Nat×List Int//x.1<=a.length/\eU a b x.2/\GA (e,hf) b (a.drop x.1) x.1 x.2=eO (e,hf) a b}) (λx=>⟨[(3,.bp 3 [] 0),(5,.bp 5 [] 0),(8,.sr 20 T3 0 a.length),(10,.p .bool true),(33,.p Fq a),(34,.p (.int .i64) (a.length:Int)),(35,.p (.int .i64) (x.1.1:Int))],[(3,.box 31 true [.p ZB e,.p dQ hf]),(5,.box 25 true [.p Fq b]),(20,.arr 3 T3 x.1.2)]⟩) (λx=>a.length-x.1.1) ⟨(0,T),Is _,O,P.symm⟩ (eW [(3,.nm 3),(5,.nm 5),(20,.nm 20)]) (λx=>?_)
  obtain⟨⟨i,m⟩,hi,r,d⟩:=x;simp only at hi r d;have Q:=r.len;have F:=λh:i<a.length=>Jn (e,hf) b a m h;simp only;repeat'(first|exact trivial|apply eS rfl|refine rX n ?_ ?_|refine rC ?_ ?_<;>intro c<;>try(cases c;done))
  .exact c
  .exact c
  .have f:i<a.length:=Do.1 c;have hk:=r.get C i;refine⟨λh=>⟨by simpa using h,hk⟩,λh=>⟨R _ (AE a (0,[]) f),S _ (AE b (0,[]) ?_)⟩⟩;have:(0:Int)<=m.getD i 0:=by simpa using h
   omega
  .have f:i<a.length:=Do.1 (by assumption);have v:Hl (e,hf) b (a.getD i (0,[])) (m.getD i 0)=true:=by
    unfold Hl;rw[Ub,DO,UL];assumption
   rw[F f,Bq v]at d;exact fI n [.tmp 6,.tmp 7] (by rw[<-d];first|exact eR|refine Uv ?_;first|rfl|exact⟨rfl,rfl⟩)
  .have f:i<a.length:=Do.1 (by assumption);have v:¬Hl (e,hf) b (a.getD i (0,[])) (m.getD i 0)=true:=by
    unfold Hl;rw[Ub,DO,UL];rintro (h|h)
    .have:=c.1;omega
    rw[show A1 (e,hf) (a.getD i (0,[])).1 (b.getD (m.getD i 0).toNat (0,[])).1=true from c.2]at h;cases h
   rw[F f,As v]at d;have M:(0:Int)<=m.getD i 0:=c.1;have N:=r.get C i;have J:(a.getD i (0,[])).2.length<=100000:=(z.2 _ (AE a (0,[]) f)).1;have E:=EC z i;have D:=EC K (m.getD i 0).toNat;have Y:((m.getD i 0).toNat:Int)=m.getD i 0:=by omega
   generalize Z:m.getD i 0=q at *;have W:(b.getD q.toNat (0,[])).2=(b.getD q.toNat (0,[])).2:=rfl;generalize s:(b.getD q.toNat (0,[])).2=bl at d D;generalize U:(a.getD i (0,[])).2=l at d J E;refine AK (ι:={y:Nat×List Int//y.1<=l.length/\eU a b y.2/\E0 bl (l.drop y.1) y.2=E0 bl l m}) (λy=>⟨[(3,.bp 3 [] 0),(5,.bp 5 [] 0),(8,.sr 20 T3 0 a.length),(10,.p .bool true),(13,.p T3 q),(33,.p Fq a),(34,.p (.int .i64) (a.length:Int)),(35,.p (.int .i64) (i:Int)),(60,.p DF l),(61,.p (.int .i64) (l.length:Int)),(62,.p (.int .i64) (y.1.1:Int))],[(3,.box 31 true [.p ZB e,.p dQ hf]),(5,.box 25 true [.p Fq b]),(20,.arr 3 T3 y.1.2)]⟩) (λy=>l.length-y.1.1) ⟨(0,m),Is _,r,rfl⟩ (eW [(3,.nm 3),(5,.nm 5),(20,.nm 20)]) (λy=>?_)
   obtain⟨⟨j,o⟩,L,t,g⟩:=y;simp only at L t g;have aa:=t.len;have B:=λh:j<l.length=>eQ bl l o h;have hx:=λh:j<l.length=>E _ (AE l (0,0) h);have G:Ao bl (l.getD j (0,0)).1<(b.length:Int):=LN (ZX _) _ λx hx=>(D x hx).2;have A:Mm bl o (l.getD j (0,0))=(decide (Ao bl (l.getD j (0,0)).1<0)||decide (0<=o.getD (l.getD j (0,0)).2.toNat 0)&&!(o.getD (l.getD j (0,0)).2.toNat 0==Ao bl (l.getD j (0,0)).1)):=rfl;rw[<-s]at B A g G;simp only;repeat'(first|exact trivial|apply eS rfl|apply AB|refine rX n ?_ ?_|refine rC ?_ ?_<;>intro c<;>try(cases c;done))
   .exact c
   .exact⟨M,N⟩
   .have k:j<l.length:=Do.1 c;exact⟨λ_=>hx k,λ_=>hx k⟩
   .have k:j<l.length:=Do.1 (by assumption);have w:Mm (b.getD q.toNat (0,[])).2 o (l.getD j (0,0))=true:=by
     rw[A,Ub,An,DO,DO,UL,ZO];assumption
    rw[B k,Bq w]at g;rw[s]at g;rw[<-g]at d;have d:none=eO (e,hf) a b:=d;exact fI n [.tmp 6,.tmp 7] (by rw[<-d];first|exact eR|refine Uv ?_;first|rfl|exact⟨rfl,rfl⟩)
   .have k:j<l.length:=Do.1 (by assumption);exact hx k
   .omega
   .have k:j<l.length:=Do.1 (by assumption);have w:¬Mm (b.getD q.toNat (0,[])).2 o (l.getD j (0,0))=true:=by
     rw[A,Ub,An,DO,DO,UL,ZO];rintro (h|⟨h1,H⟩)
     .exact absurd c.1 (AGg.2 h)
     have:=c.2 h1;rw[bne_eq_false_iff_eq]at this;exact H this
    rw[B k,As w]at g;exact⟨⟨(j+1,o.set (l.getD j (0,0)).2.toNat (Ao (b.getD q.toNat (0,[])).2 (l.getD j (0,0)).1)),k,t.set _ G,by rw[s]at g ⊢;exact g⟩,by simp only;omega,eW [(3,.nm 3),(5,.nm 5),(20,.nm 20)]⟩
   .omega
   have k:j=l.length:=by omega
   subst k;rw[AAo]at g;have g:some o=E0 bl l m:=by rw[<-s];exact g
   rw[<-g]at d;exact⟨⟨(i+1,o),f,t,d⟩,by simp only;omega,eW [(3,.nm 3),(5,.nm 5),(20,.nm 20)]⟩
  have f:i=a.length:=by exact eV
  subst f;rw[AAo]at d;have d:some m=eO (e,hf) a b:=d;refine Fl [20] ?_;exact fI n [.tmp 6,.tmp 7] (by rw[<-d];first|exact eR|refine Uv ?_;exact At (by rw[Q];exact NO _))
 .exact eN
 exact eN
def Wv (h:AG) (a b:List AC):Bool:=(eO h a b).isSome
def A4T:AZ:={ ins:=[Du,DC,DC],pre:=λ(h,a,b,_)=>AN a/\0<List.length a/\AN b/\0<List.length b/\CP h a/\CP h b,out:=λ(h,a,b,_)=>[.p .bool (Wv h a b)],lend:=true }
theorem A8Q:Ad Tryz.prog 32 A4T:=by
 refine fK [0,1,2,3,4,5,6,8] Tryz.func32 Tryz.ntmps32 (AF ABa AH) ?_;rintro w0 O0 ⟨⟨d,hf⟩,a,b,u⟩ c-hp;simp only[A4T,AM];repeat'(first|exact trivial|apply eS rfl|refine rX c ?_ ?_)
 .exact hp
 exact fI c [.tmp 6] (by unfold Wv;exact eR)
end
def gY (s:ByteArray):Nat->List Hd->Int
 | _,[]=>-1
 | k,x :: l=>if Ac x.1 s=true then (k:Int) else gY s (k+1) l
def KM (h:AG) (s:ByteArray):Int:=gY s 0 h.1
def ftG (s:ByteArray):Nat->List Wp->Int
 | _,[]=>-1
 | k,x :: l=>if Ac x.1 s=true then (k:Int) else ftG s (k+1) l
def ZE (h:AG) (s:ByteArray):Int:=ftG s 0 h.2
theorem A07 (s:ByteArray):∀(l:List Hd) (k:Nat),gY s k l=-1\/((k:Int)<=gY s k l/\gY s k l<((k+l.length:Nat):Int))
 | [],_=>.inl rfl
 | x :: l,k=>by
  unfold gY;split
  .exact .inr ⟨ZV _,by simp only[No];omega⟩
  have:=A07 s l (k+1);simp only[No];omega
theorem A08 (s:ByteArray):∀(l:List Wp) (k:Nat),ftG s k l=-1\/((k:Int)<=ftG s k l/\ftG s k l<((k+l.length:Nat):Int))
 | [],_=>.inl rfl
 | x :: l,k=>by
  unfold ftG;split
  .exact .inr ⟨ZV _,by simp only[No];omega⟩
  have:=A08 s l (k+1);simp only[No];omega
theorem ED (h:AG) (s:ByteArray):-1<=KM h s/\KM h s<(h.1.length:Int):=by
 have:=A07 s h.1 0;unfold KM;omega
theorem GB (h:AG) (s:ByteArray):-1<=ZE h s/\ZE h s<(h.2.length:Int):=by
 have:=A08 s h.2 0;unfold ZE;omega
structure LW where
 list:Int
 cons:Int
 null:Int
 dlist:Int
 first:Int
 rest:Int
 head:Int
 last:Int
def sb (l:List UInt8):ByteArray:=⟨l.toArray⟩
def AO (h:AG):LW:=⟨KM h (sb [108,105,115,116]),KM h (sb [99,111,110,115]),KM h (sb [110,117,108,108]),KM h (sb [100,108,105,115,116]),ZE h (sb [70,73,82,83,84]),ZE h (sb [82,69,83,84]),ZE h (sb [76,73,83,84]),ZE h (sb [76,65,83,84])⟩
def EE (h:AG):Bool:=decide (0<=(AO h).list/\0<=(AO h).cons/\0<=(AO h).null/\0<=(AO h).dlist/\0<=(AO h).first/\0<=(AO h).rest/\0<=(AO h).head/\0<=(AO h).last)&&A1 h (AO h).list (AO h).cons&&A1 h (AO h).list (AO h).null
def Oa (w:LW) (row:List (Int×Int)):Bool:=decide (Ao row w.first<0)&&decide (Ao row w.rest<0)
def Ob (w:LW) (row:List (Int×Int)):Bool:=decide (0<=Ao row w.first)&&decide (0<=Ao row w.rest)
def ZF (h:AG) (w:LW) (x:AC):Bool:=A1 h w.null x.1&&Oa w x.2
def Oc (h:AG) (w:LW) (x:AC):Bool:=A1 h w.cons x.1&&Ob w x.2
def Tc (h:AG) (w:LW) (x:AC):Bool:=A1 h x.1 w.cons&&Oa w x.2
def A2 (h:AG) (w:LW) (x:AC):Int:=if ZF h w x=true then 1 else if Oc h w x=true then 2 else if Tc h w x=true then 3 else 0
def Lo (h:AG) (w:LW) (f:List AC):Nat->List Int->List Int->Int->List Int×Bool×Int
 | 0,_,_,_=>([],false,6)
 | k+1,a,out,n=>if n∈a then ([],false,6) else
  if A2 h w (f.getD n.toNat (0,[]))=1 then (out,true,0) else if A2 h w (f.getD n.toNat (0,[]))=3 then (out,false,0) else if A2 h w (f.getD n.toNat (0,[]))=0 then ([],false,13)
  else Lo h w f k (a++[n]) (out++[Ao (f.getD n.toNat (0,[])).2 w.first]) (Ao (f.getD n.toNat (0,[])).2 w.rest)
def CE (h:AG) (f:List AC) (n:Int):List Int×Bool×Int:=if EE h=true then Lo h (AO h) f (f.length+1) [] [] n else ([],false,5)
theorem Nj {h:AG} {w:LW} {x:AC} (e:A2 h w x=2):0<=Ao x.2 w.first/\0<=Ao x.2 w.rest:=by
 unfold A2 at e;split at e
 .cases e
 split at e
 .rename_i a;unfold Oc Ob at a;simp only[An,DO]at a;exact a.2
 split at e<;>cases e
theorem JS {h:AG} (e:EE h=true):(0<=(AO h).first/\0<=(AO h).rest)/\0<=(AO h).cons/\0<=(AO h).null/\0<=(AO h).list/\0<=(AO h).dlist/\0<=(AO h).head/\0<=(AO h).last:=by
 unfold EE at e;rw[An,An,DO]at e;obtain⟨⟨⟨h1,a,b,c,d,f,g,i⟩,-⟩,-⟩:=e;exact⟨⟨d,f⟩,a,b,h1,c,g,i⟩
section
theorem k5 (s:ByteArray) (l:List Hd) {k:Nat} (h:k<l.length):gY s k (l.drop k)=if Ac (l.getD k Y0).1 s=true then (k:Int) else gY s (k+1) (l.drop (k+1)):=by
 rw[On h];have e:l.getD k Y0=l[k]:=by simp[AS,h]
 rw[e];rfl
theorem k6 (s:ByteArray) (l:List Wp) {k:Nat} (h:k<l.length):ftG s k (l.drop k)=if Ac (l.getD k (ByteArray.empty,0)).1 s=true then (k:Int) else ftG s (k+1) (l.drop (k+1)):=by
 rw[On h];have e:l.getD k (ByteArray.empty,0)=l[k]:=by simp[AS,h]
 rw[e];rfl
def Ww:AZ:={ ins:=[Du,T9],pre:=λ_=>True,out:=λ(h,s,_)=>[.p T3 (KM h s)],lend:=true }
attribute [local go_sem] Ww
theorem eX:Ad Tryz.prog 60 Ww:=by
 refine fK [0,1,2,4,5,10,20] Tryz.func60 Tryz.ntmps60 AH ?_;rintro w0 O0 ⟨⟨a,hf⟩,s,u⟩ e ⟨⟨⟨hl,-⟩,-⟩,-⟩ -;simp only[AQ]at hl;simp only[Ww,AM];repeat'(first|exact trivial|apply eS rfl|apply AB|refine rX e ?_ ?_|refine rC ?_ ?_<;>intro b<;>try(cases b;done))
 refine AK (ι:={k:Nat//k<=a.length/\gY s k (a.drop k)=KM (a,hf) s}) (λk=>⟨[(1,.p T9 s),(2,.bp 2 [] 0),(5,.p (.int .i64) (k.1:Int))],[(2,.box 31 true [.p ZB a,.p dQ hf])]⟩) (λk=>a.length-k.1) ⟨0,Is _,rfl⟩ (eW [(2,.nm 2)]) (λk=>?_)
 obtain⟨k,hk,c⟩:=k;have f:=λh:k<a.length=>k5 s a h;simp only;repeat'(first|exact trivial|apply eS rfl|apply AB|refine rX e ?_ ?_|refine rC ?_ ?_<;>intro b<;>try(cases b;done))
 .exact b
 .have d:k<a.length:=by exact eV
  rw[f d,Bq b]at c;exact fI e [.tmp 4] (by rw[<-c];exact eR)
 .omega
 .have d:k<a.length:=by exact eV
  rw[f d,As (by rw[b];simp)]at c;exact⟨⟨k+1,by omega,c⟩,by simp only;omega,eW [(2,.nm 2)]⟩
 have d:a.drop k=[]:=TO (by exact eV);rw[d]at c;exact fI e [.tmp 4] (by rw[<-c];first|exact eR|refine Uv ?_;rfl)
def Pj:AZ:={ ins:=[Du,T9],pre:=λ_=>True,out:=λ(h,s,_)=>[.p T3 (ZE h s)],lend:=true }
attribute [local go_sem] Pj
theorem qQ:Ad Tryz.prog 70 Pj:=by
 refine fK [0,1,2,4,5,10,20] Tryz.func70 Tryz.ntmps70 AH ?_;rintro w0 O0 ⟨⟨f,hf⟩,s,u⟩ d ⟨⟨-,hl,-⟩,-⟩ -;simp only[AQ]at hl;simp only[Pj,AM];repeat'(first|exact trivial|apply eS rfl|apply AB|refine rX d ?_ ?_|refine rC ?_ ?_<;>intro a<;>try(cases a;done))
 refine AK (ι:={k:Nat//k<=hf.length/\ftG s k (hf.drop k)=ZE (f,hf) s}) (λk=>⟨[(1,.p T9 s),(2,.bp 2 [] 0),(5,.p (.int .i64) (k.1:Int))],[(2,.box 31 true [.p ZB f,.p dQ hf])]⟩) (λk=>hf.length-k.1) ⟨0,Is _,rfl⟩ (eW [(2,.nm 2)]) (λk=>?_)
 obtain⟨k,hk,b⟩:=k;have e:=λh:k<hf.length=>k6 s hf h;simp only;repeat'(first|exact trivial|apply eS rfl|apply AB|refine rX d ?_ ?_|refine rC ?_ ?_<;>intro a<;>try(cases a;done))
 .exact a
 .have c:k<hf.length:=by exact eV
  rw[e c,Bq a]at b;exact fI d [.tmp 4] (by rw[<-b];exact eR)
 .omega
 .have c:k<hf.length:=by exact eV
  rw[e c,As (by rw[a];simp)]at b;exact⟨⟨k+1,by omega,b⟩,by simp only;omega,eW [(2,.nm 2)]⟩
 have c:hf.drop k=[]:=TO (by exact eV);rw[c]at b;exact fI d [.tmp 4] (by rw[<-b];first|exact eR|refine Uv ?_;rfl)
def A4U:AZ:=Pj
attribute [local go_sem] A4U
theorem ABb:Ad Tryz.prog 67 Pj:=by
 refine fK [0,1,2,4,5,6,8,9,10,11,20] Tryz.func67 Tryz.ntmps67 AH ?_;rintro w0 O0 ⟨⟨f,hf⟩,s,u⟩ b ⟨⟨-,hl,-⟩,-⟩ -;simp only[AQ]at hl;simp only[Pj,AM];repeat'(first|exact trivial|apply eS rfl|apply AB|refine rX b ?_ ?_|refine rC ?_ ?_<;>intro a<;>try(cases a;done))
 refine AK (ι:={k:Nat//k<=hf.length/\ftG s k (hf.drop k)=ZE (f,hf) s}) (λk=>⟨[(1,.p T9 s),(8,.p dQ hf),(9,.p (.int .i64) (hf.length:Int)),(10,.p (.int .i64) (k.1:Int))],[]⟩) (λk=>hf.length-k.1) ⟨0,Is _,rfl⟩ (eW []) (λk=>?_)
 obtain⟨k,hk,c⟩:=k;have e:=λh:k<hf.length=>k6 s hf h;simp only;repeat'(first|exact trivial|apply eS rfl|apply AB|refine rX b ?_ ?_|refine rC ?_ ?_<;>intro a<;>try(cases a;done))
 .exact a
 .refine cP 5 b ?_ ?_
  .trivial
  refine AFo (j:=.i64) b (by kernel_rfl) ?_;refine rL b ?_ ?_
  .trivial
  repeat'(first|exact trivial|apply eS rfl|apply AB|refine rX b ?_ ?_|refine rC ?_ ?_<;>intro a<;>try(cases a;done))
  .have d:k<hf.length:=by exact eV
   rw[e d,Bq a]at c;exact fI b [.tmp 4] (by rw[<-c];exact eR)
  .omega
  have d:k<hf.length:=by exact eV
  rw[e d,As (by rw[a];simp)]at c;exact⟨⟨k+1,by omega,c⟩,by simp only;omega,eW []⟩
 have d:hf.drop k=[]:=TO (by exact eV);rw[d]at c;exact fI b [.tmp 4] (by rw[<-c];first|exact eR|refine Uv ?_;rfl)
theorem A8R (s:ByteArray) (t:Hd):BA Tryz.prog 180 [.p pL t,.bp 1 [] 0] [(1,.box 9 false [.p T9 s])] [1] (λres c=>res=.p .bool (Ac t.1 s)/\c=[(1,.box 9 false [.p T9 s])]):=by
 refine Ki [0,1,2,3] [] [] Tryz.func180 Tryz.ntmps180 AH ?_;intro w0 K O0 ρ0 a d e;simp only[Aj];repeat'(first|exact trivial|apply eS rfl|apply AB|refine rX a ?_ ?_|refine rC ?_ ?_<;>intro b<;>try(cases b;done))
 refine Ev.ent (σ':=⟨[(3,.p .bool (Ac t.1 s))],[(1,.box 9 false [.p T9 s])]⟩) ?_ (AD [(1,.nm 1)] rfl rfl ?_ ?_)
 .exact fM a [.tmp 3] (.p .bool (Ac t.1 s)) eT ⟨rfl,rfl⟩
 .exact eN
 exact eN
theorem A1Y (l:List Hd) (s:ByteArray):BA Tryz.prog 177 [.p ZB l,.clo 180 [1]] [(1,.box 9 false [.p T9 s])] [1] (λres g=>res=.p T3 (gY s 0 l)/\g=[(1,.box 9 false [.p T9 s])]):=by
 refine Ki [0,1,4,5,7,8,9,16] [] [] Tryz.func177 Tryz.ntmps177 AH ?_;intro w0 K O0 ρ0 b e i;have hl:l.length<=140737488355328:=e.1.1;simp only[Aj];repeat'(first|exact trivial|apply eS rfl|apply AB|refine rX b ?_ ?_|refine rC ?_ ?_<;>intro a<;>try(cases a;done))
 refine AK (ι:={k:Nat//k<=l.length/\gY s k (l.drop k)=gY s 0 l}) (λk=>⟨[(0,.p ZB l),(1,.clo 180 [1]),(7,.p (.int .i64) (l.length:Int)),(8,.p (.int .i64) (k.1:Int))],[(1,.box 9 false [.p T9 s])]⟩) (λk=>l.length-k.1) ⟨0,Is _,rfl⟩ (eW [(1,.nm 1)]) (λk=>?_)
 obtain⟨k,hk,hf⟩:=k;have f:=λh:k<l.length=>k5 s l h;simp only;repeat'(first|exact trivial|apply eS rfl|apply AB|refine rX b ?_ ?_|refine rC ?_ ?_<;>intro a<;>try(cases a;done))
 .have c:k<l.length:=Do.1 a;have d:=f c;refine cP 5 b ?_ ?_
  .exact a
  refine rM b (A8R s (l.getD k Y0)) [(1,.nm 1)] [] ?_ ?_ ?_
  .exact eN
  .exact eN
  rintro _ _ ⟨rfl,rfl⟩;refine⟨[(1,.nm 1)],.p .bool (Ac (l.getD k Y0).1 s),[(1,.box 9 false [.p T9 s])],rfl,rfl,?_,?_,rfl,rfl,Bk ?_⟩
  .exact eN
  .exact eN
  repeat'(first|exact trivial|apply eS rfl|apply AB|refine rX b ?_ ?_|refine rC ?_ ?_<;>intro a<;>try(cases a;done))
  .rw[Bq a,hf]at d;refine Ev.ent (σ':=⟨[(4,.p (.int .i64) (k:Int))],[(1,.box 9 false [.p T9 s])]⟩) ?_ (AD [(1,.nm 1)] rfl rfl ?_ ?_)
   .exact fM b [.tmp 4] (.p T3 (k:Int)) eT ⟨by rw[d],rfl⟩
   .exact eN
   exact eN
  .omega
  rw[As (by rw[a];simp)]at d;exact⟨⟨k+1,c,d.symm.trans hf⟩,by simp only;omega,eW [(1,.nm 1)]⟩
 have c:l.drop k=[]:=TO (US.1 a);rw[c]at hf;have hf:(-1:Int)=gY s 0 l:=hf;refine Ev.ent (σ':=⟨[(4,.p (.int .i64) (-1))],[(1,.box 9 false [.p T9 s])]⟩) ?_ (AD [(1,.nm 1)] rfl rfl ?_ ?_)
 .exact fM b [.tmp 4] (.p T3 (-1)) eT ⟨by rw[hf],rfl⟩
 .exact eN
 exact eN
def A09:AZ:={ ins:=[Du,T9],pre:=λ_=>True,out:=λ(h,s,_)=>[.p T3 (KM h s)],lend:=true }
attribute [local go_sem] A09
theorem A8S:Ad Tryz.prog 138 A09:=by
 refine fK [0,1,2,3,4] Tryz.func138 Tryz.ntmps138 AH ?_;rintro w0 O0 ⟨⟨c,hf⟩,s,u⟩ a - -;simp only[A09,AM];refine Ev.ent (σ':=⟨[(0,.p Du (c,hf)),(1,.p T9 s)],[]⟩) ?_ (AD [] rfl rfl ?_ ?_)
 .repeat'(first|exact trivial|apply eS rfl|apply AB|refine rX a ?_ ?_|refine rC ?_ ?_<;>intro b<;>try(cases b;done))
  refine cP 3 a ?_ ?_
  .trivial
  refine rM a (A1Y c s) [(1,.nm 3)] [] ?_ ?_ ?_
  .exact eN
  .exact eN
  rintro _ _ ⟨rfl,rfl⟩;refine⟨[(3,.nm 1)],.p T3 (gY s 0 c),[(3,.box 9 false [.p T9 s])],rfl,rfl,?_,?_,rfl,rfl,?_⟩
  .exact eN
  .exact eN
  refine rL a ?_ ?_
  .trivial
  repeat'(first|exact trivial|apply eS rfl|apply AB|refine rX a ?_ ?_|refine rC ?_ ?_<;>intro b<;>try(cases b;done))
  exact fI a [.tmp 4] (by unfold KM;exact eR)
 .exact eN
 exact eN
theorem Mn (h:AG):KM h ⟨#[108,105,115,116]⟩=(AO h).list/\KM h ⟨#[99,111,110,115]⟩=(AO h).cons/\KM h ⟨#[110,117,108,108]⟩=(AO h).null/\KM h ⟨#[100,108,105,115,116]⟩=(AO h).dlist/\ZE h ⟨#[70,73,82,83,84]⟩=(AO h).first/\ZE h ⟨#[82,69,83,84]⟩=(AO h).rest/\ZE h ⟨#[76,73,83,84]⟩=(AO h).head/\ZE h ⟨#[76,65,83,84]⟩=(AO h).last:=⟨rfl,rfl,rfl,rfl,rfl,rfl,rfl,rfl⟩
theorem eY (h:AG):((AO h).list<(h.1.length:Int)/\(AO h).cons<(h.1.length:Int)/\(AO h).null<(h.1.length:Int)/\(AO h).dlist<(h.1.length:Int))/\(-1<=(AO h).list/\-1<=(AO h).cons/\-1<=(AO h).null/\-1<=(AO h).dlist) :=
 ⟨⟨(ED h _).2,(ED h _).2,(ED h _).2,(ED h _).2⟩,(ED h _).1,(ED h _).1,(ED h _).1,(ED h _).1⟩
theorem eZ {α:Type} {f:List α} {n:Int} (h:0<=n/\n<(f.length:Int)):n.toNat<f.length:=by omega
end
section
attribute [local go_sem] A09 A4U Pj Wu cs4 cs5
def wdF (h:AG) (w:LW):WO.den:=(h,w.list,w.cons,w.null,w.dlist,w.first,w.rest,w.head,w.last)
def lwO (w:WO.den):LW:=⟨w.2.1,w.2.2.1,w.2.2.2.1,w.2.2.2.2.1,w.2.2.2.2.2.1,w.2.2.2.2.2.2.1,w.2.2.2.2.2.2.2.1,w.2.2.2.2.2.2.2.2⟩
def Wx:AZ:={ ins:=[DC,T3,T3],pre:=λ(f,n,_)=>AN f/\(0:Int)<=n/\n<(List.length f:Int),out:=λ(f,n,e,_)=>[.p T3 (Ao (List.getD (f:List AC) n.toNat (0,[])).2 e)],lend:=true }
attribute [local go_sem] Wx
theorem Q3:Ad Tryz.prog 89 Wx:=by
 refine fK [0,1,2,3,6,8,14,15,16,17,23] Tryz.func89 Tryz.ntmps89 AH ?_;rintro w0 O0 ⟨f,n,e,u⟩ d-⟨g,hn⟩;have g:AN f:=g;have hn:0<=n/\n<(f.length:Int):=hn;simp only[Wx,AM];repeat'(first|exact trivial|apply eS rfl|apply AB|refine rX d ?_ ?_|refine rC ?_ ?_<;>intro a<;>try(cases a;done))
 .exact hn
 have j:=(g.2 _ (AE f (0,[]) (eZ hn))).1;generalize (f.getD n.toNat (0,[])).2=L at *;refine AK (ι:={k:Nat//k<=L.length/\Ao L e=Ao (L.drop k) e}) (λk=>⟨[(2,.p T3 e),(14,.p DF L),(15,.p (.int .i64) (L.length:Int)),(16,.p (.int .i64) (k.1:Int))],[]⟩) (λk=>L.length-k.1) ⟨0,Is _,rfl⟩ (eW []) (λk=>?_)
 obtain⟨k,hk,b⟩:=k;have i:=λh:k<L.length=>aM e L h;simp only;repeat'(first|exact trivial|apply eS rfl|apply AB|refine rX d ?_ ?_|refine rC ?_ ?_<;>intro a<;>try(cases a;done))
 .exact a
 .have c:k<L.length:=by exact eV
  rw[i c,Bq a]at b;exact fI d [.tmp 6] (by rw[b];exact eR)
 .omega
 .have c:k<L.length:=by exact eV
  rw[i c,As a]at b;exact⟨⟨k+1,by omega,b⟩,by simp only;omega,eW []⟩
 have c:L.drop k=[]:=TO (by exact eV);rw[c]at b;exact fI d [.tmp 6] (by rw[b];first|exact eR|refine Uv ?_;rfl)
def WOk (h:AG) (w:LW):Prop:=(0<=w.cons/\w.cons<(h.1.length:Int))/\(0<=w.null/\w.null<(h.1.length:Int))
def Pk:AZ:={ ins:=[WO,DC,T3],pre:=λ(w,f,n,_)=>WOk w.1 (lwO w)/\AN f/\CP w.1 f/\(0:Int)<=n/\n<(List.length f:Int),out:=λ(w,f,n,_)=>[.p T3 (A2 w.1 (lwO w) (List.getD (f:List AC) n.toNat (0,[])))],lend:=true }
attribute [local go_sem] Pk
theorem Q4:Ad Tryz.prog 91 Pk:=by
 refine fK [0,1,2,3,4,6,7,8,9,28,43,56] Tryz.func91 Tryz.ntmps91 (AF Q3 (AF eL AH)) ?_;rintro w0 O0 ⟨⟨h,l,c,d,dl,a,e,b,la⟩,f,n,u⟩ i-⟨j,k,m,hn⟩;have j:WOk h ⟨l,c,d,dl,a,e,b,la⟩:=j;have k:AN f:=k;have m:CP h f:=m;have hn:0<=n/\n<(f.length:Int):=hn;have hty:=m _ (AE f (0,[]) (eZ hn));simp only[Pk,AM];repeat'(first|exact trivial|apply eS rfl|apply AB|refine rX i ?_ ?_|refine rC ?_ ?_<;>intro o<;>try(cases o;done))
 .exact hn
 .exact⟨k,hn⟩
 .exact⟨j.2,hty⟩
 .have g:A2 h ⟨l,c,d,dl,a,e,b,la⟩ (f.getD n.toNat (0,[]))=1:=by
   unfold A2 ZF Oc Tc Oa Ob;simp only[An,DO];grind
  exact fI i [.tmp 6] (by rw[show lwO (h,l,c,d,dl,a,e,b,la)=⟨l,c,d,dl,a,e,b,la⟩ from rfl,g];exact eR)
 .exact⟨j.1,hty⟩
 .have g:A2 h ⟨l,c,d,dl,a,e,b,la⟩ (f.getD n.toNat (0,[]))=2:=by
   unfold A2 ZF Oc Tc Oa Ob;simp only[An,DO];grind
  exact fI i [.tmp 6] (by rw[show lwO (h,l,c,d,dl,a,e,b,la)=⟨l,c,d,dl,a,e,b,la⟩ from rfl,g];exact eR)
 .exact⟨hty,j.1⟩
 .have g:A2 h ⟨l,c,d,dl,a,e,b,la⟩ (f.getD n.toNat (0,[]))=3:=by
   unfold A2 ZF Oc Tc Oa Ob;simp only[An,DO];grind
  exact fI i [.tmp 6] (by rw[show lwO (h,l,c,d,dl,a,e,b,la)=⟨l,c,d,dl,a,e,b,la⟩ from rfl,g];exact eR)
 have g:A2 h ⟨l,c,d,dl,a,e,b,la⟩ (f.getD n.toNat (0,[]))=0:=by
  unfold A2 ZF Oc Tc Oa Ob;simp only[An,DO];grind
 exact fI i [.tmp 6] (by rw[show lwO (h,l,c,d,dl,a,e,b,la)=⟨l,c,d,dl,a,e,b,la⟩ from rfl,g];exact eR)
theorem A8T {a b:Int}:(if b<a then b else a)<0↔a<0\/b<0:=by split<;>omega
theorem A8U {a b:Int}:(0<=if b<a then b else a)↔0<=a/\0<=b:=by split<;>omega
def AAi:WO.den:=(([],[]),0,0,0,0,0,0,0,0)
def Jo:AZ:={ ins:=[Du],pre:=λ_=>True,out:=λ(h,_)=>[.p WO (if EE h=true then wdF h (AO h) else AAi),.p Fm (if EE h=true then 0 else 5)] }
attribute [local go_sem] Jo
theorem KN:Ad Tryz.prog 88 Jo:=by
 refine fK [0,1,2,3,4,58] Tryz.func88 Tryz.ntmps88 (AF A8S (AF ABb (AF eL AH))) ?_;rintro w0 O0 ⟨⟨a,hf⟩,u⟩ b - -;obtain⟨e1,e2,f,g,i,j,k,l⟩:=Mn (a,hf);obtain⟨⟨q,r,s,t⟩,m,n,o,p⟩:=eY (a,hf);simp only[Jo,AM];repeat'(first|exact trivial|apply eS rfl|apply AB|refine rX b ?_ ?_|refine rC ?_ ?_<;>intro e<;>try(cases e;done))
 all_goals simp only[e1,e2,f,g,i,j,k,l,A8T,A8U]at *
 .refine⟨λh=>?_,λh=>?_⟩<;>simp only[UL,Yl,To,not_or]at h<;>grind
 .have c:EE (a,hf)=false:=by
   rw[AAv];intro d;unfold EE at d;simp only[An,DO]at d;grind
  exact fI b [.cell 2 115,.tmp 3] (by simp only[c,Yg,iN,AAi];exact eR)
 have c:EE (a,hf)=true:=by
  unfold EE;simp only[An,DO];grind
 exact fI b [.cell 2 115,.tmp 3] (by simp only[c,ZU,wdF];exact eR)
end
section
attribute [local go_sem] Q2
def k7 (f:List AC) (s:List Int×List Int):Prop:=∀n∈s.2,0<=n/\n<(f.length:Int)
theorem Wy {f:List AC} (hf:AN f):∀(k:Nat) (s:List Int×List Int) (n:Int),k7 f s->0<=n->n<f.length->k7 f (Dz f k s n)
 | 0,s,n,h,_,_=>h
 | k+1,s,n,h,h0,h1=>by
  rw[Fg];have key:∀(l:List (Int×Int)) (t:List Int×List Int),(∀a∈l,0<=a.2/\a.2<(f.length:Int))->k7 f t->k7 f (l.foldl (EV f k) t):=by
   intro l;induction l with
   | nil=>intro t _ d;exact d
   | cons a l g =>
    intro t hl d;simp only[UN];refine g _ (λb e=>hl b (by simp[e])) ?_;unfold EV;split
    .exact Wy hf k t a.2 d (hl a (by simp)).1 (hl a (by simp)).2
    exact d
  refine key _ _ (λa ha=>VA hf ha) ?_;intro m c;simp only[IN,UM]at c;rcases c with c|rfl
  .exact h m c
  exact⟨h0,h1⟩
def GU (f:List AC) (root:Int):List Int×List Int:=Dz f f.length (List.replicate f.length (-1),[]) root
def ZG (num:List Int) (a:Int×Int):Int×Int:=(a.1,num.getD a.2.toNat 0)
def Mo (f:List AC) (num:List Int) (n:Int):AC:=((f.getD n.toNat (0,[])).1,(Aa (f.getD n.toNat (0,[])).2).map (ZG num))
def JT (f:List AC) (root:Int):List AC:=(GU f root).2.map (Mo f (GU f root).1)
theorem k8 (m:Nat):Lu (List.replicate m (-1))=m:=by
 induction m with
 | zero=>rfl
 | succ m a=>simp only[Lu,AFW,ABQ]at a ⊢;simp[a]
theorem tr0 (f:List AC):UG f (List.replicate f.length (-1),[]):=⟨by simp,by simp[k8]⟩
theorem A0a {f:List AC} {n:Int} (h0:0<=n) (h1:n<f.length):(List.replicate f.length (-1:Int)).getD n.toNat 0<0:=by
 have:n.toNat<f.length:=by omega
 simp[AS,oF,this]
theorem A0b {f:List AC} (hf:AN f) {n:Int} (h0:0<=n) (h1:n<f.length):UG f (GU f n)/\k7 f (GU f n) :=
 ⟨(SH hf _ _ n (tr0 f) h0 h1 (A0a h0 h1)).1,Wy hf _ _ n (λm a=>by simp at a) h0 h1⟩
theorem Wz {α β:Type} (g:α->β) (h:β->α) (L:List α) (d:α) {k:Nat} (hk:k<L.length) (u:α->α):((L.take k).map u++L.drop k).set k (u (L.getD k d))=(L.take (k+1)).map u++L.drop (k+1)/\((L.take k).map u++L.drop k).getD k d=L.getD k d:=by
 have h1:((L.take k).map u).length=k:=by simp;omega
 have a:L.drop k=L.getD k d :: L.drop (k+1):=by
  rw[On hk,AS,AT hk];rfl
 constructor
 .rw[Av L d hk,AFc _ _ (by omega),h1,AAz,a];simp
 rw[AS,Ud (by omega),h1,AAz,a];rfl
def aN:AZ:={ ins:=[DC,T3],pre:=λ(f,n,_)=>AN f/\0<=n/\n<(List.length f:Int),out:=λ(f,n,_)=>[.p DC (JT f n)] }
theorem A8V:Ad Tryz.prog 114 aN:=by
 refine fK [0,1,2,4,5,6,7,8,9,10,11,19,40,60] Tryz.func114 Tryz.ntmps114 (AF aL AH) ?_;rintro w0 O0 ⟨f,root,u⟩ d-⟨hf,l,m⟩;simp only[aN,AM];have G:=hf.1;repeat'(first|exact trivial|apply eS rfl|refine rX d ?_ ?_)
 refine AK (ι:={i:Nat//i<=f.length}) (λi=>⟨[(1,.p T3 root),(2,.bp 2 [] 0),(4,.bp 4 [] 0),(5,.bp 14 [] 0),(6,.p (.int .i64) (i.1:Int))],[(2,.box 25 true [.p Fq f]),(4,.box 25 true [.raw (.slice none 0 0)]),(14,.box 184 true [.p DC f,.sr 10 T3 0 i.1,.raw (.slice none 0 0)]),(10,.arr 3 T3 (List.replicate i.1 (-1)))]⟩) (λi=>f.length-i.1) ⟨0,by omega⟩ (AD [(2,.nm 2),(4,.nm 4),(14,.nm 14),(10,.nil)] rfl rfl ?_ ?_) (λi=>?_)
 .refine eM ?_;rfl
 .exact eN
 obtain⟨i,hi⟩:=i;repeat'(first|exact trivial|apply eS rfl|apply AB|refine rX d ?_ ?_|refine rC ?_ ?_<;>intro h<;>try(cases h;done))
 .simp only[AQ];omega
 .exact eV
 .have hi:i<List.length f:=by exact eV
  refine⟨⟨i+1,by omega⟩,by simp only;omega,AD [(2,.nm 2),(4,.nm 4),(14,.nm 14),(10,.nm 10)] rfl rfl ?_ ?_⟩
  .refine eM ?_;rw[List.replicate_succ'];simp
  exact eN
 have A:i=List.length f:=by exact eV
 subst A;have w:=A0b hf l m;refine cP 2 d ?_ ?_
 .trivial
 refine rM d (A4S f hf (List.length f) (List.replicate (List.length f) (-1),[]) root (tr0 f) l m (A0a l m) (by rw[k8];exact NO _)) [(1,.nm 14),(2,.nm 10),(3,.nil)] [10] ?_ ?_ ?_
 .exact eN
 .simp only[Ln];refine eM ?_;simp
 rintro _ _ ⟨rfl,rfl⟩;refine⟨[(14,.nm 1),(101,.nm 2),(102,.nm 3)],.raw (.tuple #[]),[(14,.box 184 true [.p DC f,.sr 101 T3 0 (GU f root).1.length,.sr 102 T3 0 (GU f root).2.length]),(101,.arr 3 T3 (GU f root).1),(102,.arr 3 T3 (GU f root).2)],rfl,rfl,?_,?_,rfl,rfl,Bk ?_⟩
 .simp only[Ln,GU];exact eN
 .exact eN
 have z:JT f root=(GU f root).2.map (Mo f (GU f root).1):=rfl;rw[z];generalize GU f root=s at w;obtain⟨num,c⟩:=s;obtain⟨⟨r,t⟩,j⟩:=w;simp only at r t;have j:∀n∈c,0<=n/\n<(List.length f:Int):=j;repeat'(first|exact trivial|apply eS rfl|refine rX d ?_ ?_)
 refine AK (ι:={i:Nat//i<=c.length}) (λi=>⟨[(2,.bp 2 [] 0),(4,.bp 4 [] 0),(5,.bp 14 [] 0),(7,.bp 7 [] 0),(8,.p (.int .i64) (i.1:Int))],[(2,.box 25 true [.p Fq f]),(4,.box 25 true [.raw (.slice none 0 0)]),(14,.box 184 true [.p DC f,.sr 101 T3 0 num.length,.sr 102 T3 0 c.length]),(101,.arr 3 T3 num),(102,.arr 3 T3 c),(7,.box 25 true [.sr 200 GR 0 i.1]),(200,.arr 93 GR ((c.take i.1).map (Mo f num)))]⟩) (λi=>c.length-i.1) ⟨0,by omega⟩ (eW [(2,.nm 2),(4,.nm 4),(14,.nm 14),(101,.nm 101),(102,.nm 102),(7,.nm 7),(200,.nil)]) (λi=>?_)
 obtain⟨i,hi⟩:=i;repeat'(first|exact trivial|apply eS rfl|refine rX d ?_ ?_|refine rC ?_ ?_<;>intro h<;>try(cases h;done))
 .have hi:i<c.length:=by exact eV
  exact⟨by exact eV,j _ (AE c 0 hi)⟩
 .exact UR (Ml hf _) (by omega)
 .have hi:i<c.length:=by exact eV
  have q:=λa (ha:a∈Aa (f.getD (Int.toNat (c.getD i 0)) (0,[])).2)=>VA hf ha;have v:Mo f num (c.getD i 0)=((f.getD (Int.toNat (c.getD i 0)) (0,[])).1,(Aa (f.getD (Int.toNat (c.getD i 0)) (0,[])).2).map (ZG num)):=rfl;have B:=Ml hf (c.getD i 0);generalize List.getD f (Int.toNat (c.getD i 0)) (0,[])=x at *;obtain⟨E,o⟩:=x;simp only at q v B;have F:=Ck o;generalize Aa o=L at *;refine AK (ι:={k:Nat//k<=L.length}) (λk=>⟨[(2,.bp 2 [] 0),(4,.bp 4 [] 0),(5,.bp 14 [] 0),(7,.bp 7 [] 0),(8,.p (.int .i64) (i:Int)),(9,.bp 9 [] 0),(10,.sr 56 AW 0 L.length),(11,.p (.int .i64) (k.1:Int))],[(56,.arr 106 AW ((L.take k.1).map (ZG num)++L.drop k.1)),(9,.box 93 true [.p T3 E,.p DF o]),(2,.box 25 true [.p Fq f]),(4,.box 25 true [.raw (.slice none 0 0)]),(14,.box 184 true [.p DC f,.sr 101 T3 0 num.length,.sr 102 T3 0 c.length]),(101,.arr 3 T3 num),(102,.arr 3 T3 c),(7,.box 25 true [.sr 200 GR 0 i]),(200,.arr 93 GR ((c.take i).map (Mo f num)))]⟩) (λk=>L.length-k.1) ⟨0,by omega⟩ (eW [(2,.nm 2),(4,.nm 4),(14,.nm 14),(101,.nm 101),(102,.nm 102),(7,.nm 7),(200,.nm 200),(9,.nm 9),(56,.nm 56)]) (λk=>?_)
  obtain⟨k,hk⟩:=k;repeat'(first|exact trivial|apply eS rfl|apply AB|refine rX d ?_ ?_|refine rC ?_ ?_<;>intro h<;>try(cases h;done))
  .have g:k<L.length:=by exact eV
   have e:=(Wz (ZG num) (λb=>b) L (0,0) g (ZG num)).2;rw[e];have:=q _ (AE L (0,0) g);rw[r];exact⟨by exact eV,this,by exact eV⟩
  .exact eV
  .have g:k<L.length:=by exact eV
   have e:=Wz (ZG num) (λb=>b) L (0,0) g (ZG num);refine⟨⟨k+1,by omega⟩,by simp only;omega,AD [(2,.nm 2),(4,.nm 4),(14,.nm 14),(101,.nm 101),(102,.nm 102),(7,.nm 7),(200,.nm 200),(9,.nm 9),(56,.nm 56)] rfl rfl ?_ ?_⟩
   .refine eM ?_;rw[e.2];exact e.1
   exact eN
  .simp only[AQ];have:=t;omega
  .exact eV
  have g:L.take k=L:=At (by exact eV);have y:L.drop k=[]:=TO (by exact eV);refine⟨⟨i+1,by omega⟩,by simp only;omega,AD [(2,.nm 2),(4,.nm 4),(14,.nm 14),(101,.nm 101),(102,.nm 102),(7,.nm 7),(200,.nm 200)] rfl rfl ?_ ?_⟩
  .refine eM ?_;rw[g,y,Uh,Av c 0 hi,UZ,UY,AFe,v];have C:List.take i ((c.take i).map (Mo f num))=(c.take i).map (Mo f num):=At (by rw[OF,OS];omega);have D:List.take L.length (L.map (ZG num))=L.map (ZG num):=At (by rw[OF];omega);rw[C,D]
  exact eN
 have hk:c.take i=c:=At (by exact eV);rw[hk];refine fI d [.cell 4 25] (by first|exact eR|refine Uv ?_;exact At (by rw[OF];exact eV))
end
section
def qR:AZ:={ ins:=[T3],pre:=λ_=>True,out:=λ_=>[.p .bool false] }
attribute [local go_sem] qR
def UH (a b:Int):Int:=if a<b then -1 else if b<a then 1 else 0
def HF:AZ:={ ins:=[T3,T3],pre:=λ_=>True,out:=λ(a,b,_)=>[.p T3 (UH a b)] }
attribute [local go_sem] HF
def Cy:AZ:={ ins:=[AW,AW],pre:=λ_=>True,out:=λ(a,b,_)=>[.p T3 (UH (Prod.fst a) (Prod.fst b))] }
attribute [local go_sem] Cy
theorem A4V:Ad Tryz.prog 224 qR:=by
 refine fK [0,2] Tryz.func224 Tryz.ntmps224 AH ?_;rintro w0 O0 ⟨x,u⟩ a - -;simp only[qR,AM];repeat'(first|exact trivial|apply eS rfl|refine rX a ?_ ?_)
 exact fI a [.tmp 2]
theorem ZH:Ad Tryz.prog 208 HF:=by
 refine fK [0,1,4,5,6,11,12,13,16,19] Tryz.func208 Tryz.ntmps208 (AF A4V AH) ?_;rintro w0 O0 ⟨a,b,u⟩ c - -;simp only[HF,AM];repeat'(first|exact trivial|apply eS rfl|refine rX c ?_ ?_|refine rC ?_ ?_<;>intro d<;>try(cases d;done))
 .have e:UH a b=-1:=Bq d;exact fI c [.tmp 4] (by rw[e];exact eR)
 .have e:UH a b=1:=by unfold UH;rw[As (by omega),Bq d]
  exact fI c [.tmp 4] (by rw[e];exact eR)
 have e:UH a b=0:=by unfold UH;rw[As (by omega),As (by omega)]
 exact fI c [.tmp 4] (by rw[e];exact eR)
theorem E1:Ad Tryz.prog 192 Cy:=by
 refine fK [0,1,2,3,4] Tryz.func192 Tryz.ntmps192 (AF ZH AH) ?_;rintro w0 O0 ⟨a,b,u⟩ c - -;simp only[Cy,AM];repeat'(first|exact trivial|apply eS rfl|refine rX c ?_ ?_)
 exact fI c [.tmp 4]
def k9 (l:List (Int×Int)):Prop:=∀i,i+1<l.length->(l.getD i (0,0)).1<(l.getD (i+1) (0,0)).1
end
def CG (f:List AC):Nat->List Int->Int->List Int
 | 0,o,_=>o
 | k+1,o,n=>(f.getD n.toNat (0,[])).2.foldl (λo a=>if a.2∈o then o else CG f k o a.2) (o++[n])
def AY (f:List AC) (k:Nat) (o:List Int) (a:Int×Int):List Int:=if a.2∈o then o else CG f k o a.2
theorem Bv (f:List AC) (k:Nat) (o:List Int) (n:Int):CG f (k+1) o n=(f.getD n.toNat (0,[])).2.foldl (AY f k) (o++[n]):=rfl
structure Iw (f:List AC) (o:List Int):Prop where
 nd:o.Nodup
 rng:∀x∈o,0<=x/\x<(f.length:Int)
theorem Iw.len {f:List AC} {o:List Int} (h:Iw f o):o.length<=f.length:=by
 have h1:(o.map Int.toNat).Nodup:=by
  rw[List.Nodup,Yh];refine h.nd.imp_of_mem λ{a b} ha c g e=>g ?_;have:=h.rng a ha;have:=h.rng b c;omega
 have:=EJ f.length (o.map Int.toNat) h1 (λj d=>by
  obtain⟨x,hx,rfl⟩:=IF.1 d;have:=h.rng x hx;omega)
 simpa using this
theorem Iw.snoc {f:List AC} {o:List Int} (h:Iw f o) {n:Int} (h0:0<=n) (h1:n<f.length) (hn:n∉o):Iw f (o++[n]):=by
 refine⟨?_,λx hx=>?_⟩
 .rw[nO];refine⟨h.nd,by simp,λa ha b c=>?_⟩;grind
 rcases IN.1 hx with hx|hx
 .exact h.rng x hx
 grind
theorem EF {f:List AC} {k:Nat} (i:∀(o:List Int) (n:Int),Iw f o->0<=n->n<f.length->n∉o->Iw f (CG f k o n)/\o <+: CG f k o n) :
  ∀(l:List (Int×Int)) (o:List Int),(∀a∈l,0<=a.2/\a.2<(f.length:Int))->Iw f o->Iw f (l.foldl (AY f k) o)/\o <+: l.foldl (AY f k) o
 | [],o,_,h=>⟨h,iF _⟩
 | a :: l,o,hl,h=>by
  simp only[UN];have c:Iw f (AY f k o a)/\o <+: AY f k o a:=by grind [AY]
  obtain⟨d,e⟩:=EF i l _ (λb g=>hl b (by simp[g])) c.1;exact⟨d,c.2.trans e⟩
theorem Au {f:List AC} (hf:AN f) {n:Int} {a:Int×Int} (ha:a∈(f.getD n.toNat (0,[])).2):0<=a.2/\a.2<f.length:=by
 by_cases h:n.toNat<f.length
 .have b:f.getD n.toNat (0,[])∈f:=by
   rw[AS,AT h];exact YZ h
  exact(hf.2 _ b).2 a ha
 grind
theorem DV {f:List AC} (hf:AN f):∀(k:Nat) (o:List Int) (n:Int),Iw f o->0<=n->n<f.length->n∉o->Iw f (CG f k o n)/\o <+: CG f k o n
 | 0,o,n,h,_,_,_=>⟨h,iF _⟩
 | k+1,o,n,h,h0,h1,d=>by
  obtain⟨b,c⟩:=EF (DV hf k) _ _ (λa ha=>Au hf ha) (h.snoc h0 h1 d);rw[Bv];exact⟨b,(AG3 o [n]).trans c⟩
theorem Id {f:List AC} (hf:AN f):∀(k:Nat) (o:List Int) (n:Int),Iw f o->0<=n->n<f.length->n∉o->f.length-o.length<=k ->
  n∈CG f k o n/\∀x∈CG f k o n,x∈o\/∀a∈(f.getD x.toNat (0,[])).2,a.2∈CG f k o n
 | 0,o,n,h,h0,h1,i,hk=>by
  have:=(h.snoc h0 h1 i).len;grind
 | k+1,o,n,h,h0,h1,i,hk=>by
  have key:∀(l:List (Int×Int)) (t:List Int),(∀a∈l,0<=a.2/\a.2<(f.length:Int))->Iw f t->f.length-t.length<=k ->
    (∀a∈l,a.2∈l.foldl (AY f k) t)/\∀x∈l.foldl (AY f k) t,x∈t\/∀a∈(f.getD x.toNat (0,[])).2,a.2∈l.foldl (AY f k) t:=by
   intro l;induction l with
   | nil=>exact λt _ _ _=>⟨λa ha=>(by cases ha),λx hx=>.inl hx⟩
   | cons a l s =>
    intro t hl m p;simp only[UN];have r:Iw f (AY f k t a)/\t <+: AY f k t a/\a.2∈AY f k t a/\∀x∈AY f k t a,x∈t\/∀b∈(f.getD x.toNat (0,[])).2,b.2∈AY f k t a:=by
     unfold AY;split
     .grind
     rename_i hn;have q:=hl a (by simp);obtain⟨c,d⟩:=DV hf k t a.2 m q.1 q.2 hn;obtain⟨e,j⟩:=Id hf k t a.2 m q.1 q.2 hn p;exact⟨c,d,e,j⟩
    obtain⟨c,d,e,j⟩:=r;have u:=d.length_le;obtain⟨v,w⟩:=s (AY f k t a) (λb g=>hl b (by simp[g])) c (by omega);obtain⟨_,y⟩:=EF (DV hf k) l (AY f k t a) (λb g=>hl b (by simp[g])) c;refine⟨λb g=>?_,λx hx=>?_⟩
    .grind
    grind
  have hs:=h.snoc h0 h1 i;obtain⟨c,d⟩:=key (f.getD n.toNat (0,[])).2 (o++[n]) (λa ha=>Au hf ha) hs (by simp only[BY,IS];omega);obtain⟨_,e⟩:=EF (DV hf k) (f.getD n.toNat (0,[])).2 (o++[n]) (λa ha=>Au hf ha) hs;rw[Bv];refine⟨e.subset (by simp),λx hx=>?_⟩;grind
def BE (o:List Int) (x:Int):Int:=if x∈o then (o.idxOf x:Int) else 0
def Gm (o:List Int) (a:Int×Int):Int×Int:=(a.1,BE o a.2)
def CL (f:List AC) (o:List Int) (n:Int):AC:=((f.getD n.toNat (0,[])).1,(f.getD n.toNat (0,[])).2.map (Gm o))
def AI (f:List AC) (root:Int):List AC:=(CG f f.length [] root).map (CL f (CG f f.length [] root))
def HS (f:List AC):Prop:=∀x∈f,k9 x.2/\x.2.length<=200
theorem qS {f:List AC} (hf:HS f) (n:Int):k9 (f.getD n.toNat (0,[])).2/\(f.getD n.toNat (0,[])).2.length<=200:=by
 by_cases h:n.toNat<f.length
 .have a:f.getD n.toNat (0,[])∈f:=by
   rw[AS,AT h];exact YZ h
  exact hf _ a
 rw[AS,UV (by omega)];exact⟨λi hi=>by simp at hi,by simp⟩
theorem HG {l:List (Int×Int)} (h:k9 l):Aa l=l:=by
 have key:∀i,i<=l.length->Aa (l.take i)=l.take i:=by
  intro i;induction i with
  | zero=>intro _;rfl
  | succ i d =>
   intro hi;rw[Av l (0,0) (by omega),Hk,d (by omega)];have b:(l.take i).length=i:=by rw[OS];omega
   have c:Hj (l.getD i (0,0)) (l.take i) (l.take i).length=(l.take i).length:=by
    rw[b];cases i with
    | zero=>rfl
    | succ i =>
     have h1:=h i (by omega);have a:(l.take (i+1)).getD i (0,0)=l.getD i (0,0):=by grind
     simp only[Hj];rw[a,As (by omega)]
   unfold Ny;rw[c,UO,AAo,Uh]
 have:=key l.length (NO _)
 rwa [UO]at this
structure Lp (f:List AC) (num o:List Int):Prop where
 len:num.length=f.length
 get:∀j,j<f.length->num.getD j 0=if (j:Int)∈o then (o.idxOf (j:Int):Int) else -1
theorem Lp.neg {f:List AC} {num o:List Int} (h:Lp f num o) {n:Int} (h0:0<=n) (h1:n<f.length):num.getD n.toNat 0<0↔n∉o:=by
 have:=h.get n.toNat (by omega);grind
theorem A20 {o:List Int} {n:Int} (h:n∉o):(o++[n]).idxOf n=o.length:=by rw[AGf,As h];simp
theorem Lp.snoc {f:List AC} {num o:List Int} (h:Lp f num o) {n:Int} (h0:0<=n) (h1:n<f.length) (hn:n∉o):Lp f (num.set n.toNat (o.length:Int)) (o++[n]):=by
 refine⟨by simpa using h.len,λj a=>?_⟩;have c:j<num.length:=by rw[h.len];exact a
 by_cases e:j=n.toNat
 .grind
 have en:¬(j:Int)=n:=by omega
 simp only[AS];rw[List.getElem?_set_ne (λb=>e b.symm)];have:=h.get j a;grind
theorem W8 {f:List AC} (hf:AN f) (hs:HS f):∀(k:Nat) (s:List Int×List Int) (n:Int),Lp f s.1 s.2->Iw f s.2->0<=n->n<f.length->n∉s.2->(Dz f k s n).2=CG f k s.2 n/\Lp f (Dz f k s n).1 (Dz f k s n).2
 | 0,s,n,h,_,_,_,_=>⟨rfl,h⟩
 | k+1,s,n,h,r,h0,h1,i=>by
  have key:∀(l:List (Int×Int)) (t:List Int×List Int),(∀a∈l,0<=a.2/\a.2<(f.length:Int))->Lp f t.1 t.2->Iw f t.2->(l.foldl (EV f k) t).2=l.foldl (AY f k) t.2/\Lp f (l.foldl (EV f k) t).1 (l.foldl (EV f k) t).2:=by
   intro l;induction l with
   | nil=>exact λt _ e _=>⟨rfl,e⟩
   | cons a l x =>
    intro t hl e j;simp only[UN];have q:=hl a (by simp);have u:=e.neg q.1 q.2;have v:(EV f k t a).2=AY f k t.2 a/\Lp f (EV f k t a).1 (EV f k t a).2/\Iw f (EV f k t a).2:=by
     unfold EV AY;by_cases d:a.2∈t.2
     .grind
     rw[As d,Bq (by rw[u];exact d)];obtain⟨c,g⟩:=W8 hf hs k t a.2 e j q.1 q.2 d;exact⟨c,g,by rw[c];exact(DV hf k t.2 a.2 j q.1 q.2 d).1⟩
    obtain⟨c,g,o⟩:=v;obtain⟨m,w⟩:=x (EV f k t a) (λb p=>hl b (by simp[p])) g o;rw[c]at m;exact⟨m,w⟩
  rw[Fg,Bv,HG (qS hs n).1];exact key _ (s.1.set n.toNat (s.2.length:Int),s.2++[n]) (λa ha=>Au hf ha) (h.snoc h0 h1 i) (r.snoc h0 h1 i)
theorem Ie {f:List AC} (hf:AN f) (hs:HS f) {root:Int} (h0:0<=root) (h1:root<f.length):JT f root=AI f root:=by
 have h:Lp f (List.replicate f.length (-1)) []:=⟨by simp,λj g=>by simp[AS,oF,g]⟩;have d:Iw f []:=⟨by simp,λx hx=>by cases hx⟩;obtain⟨c,b⟩:=W8 hf hs f.length (List.replicate f.length (-1),[]) root h d h0 h1 (by simp);have c:(GU f root).2=CG f f.length [] root:=c;have b:Lp f (GU f root).1 (GU f root).2:=b;have i:=(Id hf f.length [] root d h0 h1 (by simp) (by simp)).2;have k:=(DV hf f.length [] root d h0 h1 (by simp)).1;unfold JT AI;rw[c]at b ⊢;generalize CG f f.length [] root=o at *;refine Of λx hx=>?_;unfold Mo CL;rw[HG (qS hs x).1];refine Yp _ (Of λa ha=>?_);unfold ZG Gm BE;have e:a.2∈o:=by grind
 have l:=Au hf ha;have:=b.get a.2.toNat (by omega);rw[show ((a.2.toNat:Nat):Int)=a.2 by omega]at this;rw[this,Bq e,Bq e]
def n8 (o:List Int):List (Int×Int):=(List.range o.length).map λi=>(o.getD i 0,(i:Int))
theorem lA (o:List Int) (n:Int):n8 (o++[n])=n8 o++[(n,(o.length:Int))]:=by
 unfold n8;rw[BY,IS,Yf,UZ]
 congr 1
 .refine Of λi hi=>?_;grind
 simp[AS]
theorem A21 (k:Int) (a b:List (Int×Int)):BU T3 T3 k (a++b)=(BU T3 T3 k a).or (BU T3 T3 k b):=by
 induction a with
 | nil=>rfl
 | cons x a c =>
  simp only[ZP,BU];split
  .rfl
  exact c
theorem EK {α:Type} {p:List α->Prop} (h0:p []) (h1:∀l a,p l->p (l++[a])) (l:List α):p l:=by
 have:∀n (l:List α),l.length=n->p l:=by
  intro n;induction n with
  | zero=>intro l hl;rw[AFF.1 hl];exact h0
  | succ n c =>
   intro l hl;have b:l≠[]:=by intro e;subst e;simp at hl
   rw[<-List.dropLast_concat_getLast b];exact h1 _ _ (c _ (by simp[hl]))
 exact this _ l rfl
theorem SI (o:List Int) (x:Int):BU T3 T3 x (n8 o)=if x∈o then some (o.idxOf x:Int) else none:=by
 induction o using EK with
 | h0=>rfl
 | h1 o n a =>
  rw[lA,A21,a];by_cases hx:x∈o
  .grind
  grind [A20,BU,Ir]
theorem A22 (k v:Int) (l:List (Int×Int)) (h:BU T3 T3 k l=none):Fx T3 T3 k v l=l++[(k,v)]:=by
 induction l with
 | nil=>rfl
 | cons x l a =>
  simp only[BU]at h;simp only[Fx,ZP];split at h
  .cases h
  grind
theorem lB {o:List Int} {n:Int} (hn:n∉o):Fx T3 T3 n (o.length:Int) (n8 o)=n8 (o++[n]):=by grind [A22,SI,lA]
theorem A0c (o:List Int) (x:Int):(BU T3 T3 x (n8 o)).getD 0=BE o x:=by grind [SI,BE]
theorem LO (o:List Int) (x:Int):(BU T3 T3 x (n8 o)).isSome=decide (x∈o):=by
 rw[SI];split<;>simp[*]
section
variable {α:Type}
structure SO (o:α->α->Int):Prop where
 anti:∀a b,o b a=- o a b
 trans:∀ {a b c},o a b<0->o b c<0->o a c<0
variable {o:α->α->Int} {d:α}
def CU (d:α) (l:List α) (i j:Nat):List α:=(l.set i (l.getD j d)).set j (l.getD i d)
theorem Ig {l:List α} {i j:Nat} (hi:i<l.length) (a:j<l.length) (k:Nat):(CU d l i j).getD k d=if k=j then l.getD i d else if k=i then l.getD j d else l.getD k d:=by
 unfold CU;simp only[AS,ZS,Ya];by_cases e1:j=k
 .rw[Bq e1,Bq (by omega),Bq e1.symm];rfl
 rw[As e1,As (show ¬k=j by omega)];by_cases e2:i=k
 .rw[Bq e2,Bq (by omega),Bq e2.symm];rfl
 rw[As e2,As (show ¬k=i by omega)]
theorem A23 {l:List α} {i j:Nat} (hi:i<l.length) (a:j<l.length):(CU d l i j).Perm l:=by
 have e1:l.getD i d=l[i]:=by rw[AS,AT hi];rfl
 have e2:l.getD j d=l[j]:=by rw[AS,AT a];rfl
 unfold CU;rw[e1,e2];exact List.set_set_perm hi a
structure D9 (d:α) (a b:Nat) (l r:List α):Prop where
 perm:r.Perm l
 out:∀k,k<a\/b<=k->r.getD k d=l.getD k d
 inn:∀i,a<=i->i<b->∃j,a<=j/\j<b/\r.getD i d=l.getD j d
theorem D9.len {a b:Nat} {l r:List α} (h:D9 d a b l r):r.length=l.length:=h.perm.length_eq
theorem D9.refl (a b:Nat) (l:List α):D9 d a b l l:=⟨List.Perm.refl _,λ_ _=>rfl,λi h1 c=>⟨i,h1,c,rfl⟩⟩
theorem D9.trans {a b:Nat} {l r s:List α} (h:D9 d a b l r) (c:D9 d a b r s):D9 d a b l s:=⟨c.perm.trans h.perm,λk hk=>(c.out k hk).trans (h.out k hk),λi h1 f=>by
 obtain⟨j,g,m,e⟩:=c.inn i h1 f;obtain⟨k,n,o,e2⟩:=h.inn j g m;exact⟨k,n,o,e.trans e2⟩⟩
theorem D9.mono {a b c b':Nat} {l r:List α} (h:D9 d a b l r) (ha:c<=a) (g:b<=b'):D9 d c b' l r:=⟨h.perm,λk hk=>h.out k (by omega),λi h1 f=>by
 by_cases hi:a<=i/\i<b
 .obtain⟨j,m,n,e⟩:=h.inn i hi.1 hi.2;exact⟨j,by omega,by omega,e⟩
 exact⟨i,h1,f,h.out i (by omega)⟩⟩
theorem D9.swap {a b:Nat} (l:List α) {i j:Nat} (e:a<=i) (f:i<b) (g:a<=j) (h:j<b) (o:b<=l.length):D9 d a b l (CU d l i j):=by
 have c:=Ig (d:=d) (l:=l) (i:=i) (j:=j) (by omega) (by omega);refine⟨A23 (by omega) (by omega),λk hk=>?_,λk m n=>?_⟩
 .rw[c k,As (by omega),As (by omega)]
 rw[c k];by_cases e1:k=j
 .rw[Bq e1];exact⟨i,e,f,rfl⟩
 rw[As e1];by_cases e2:k=i
 .rw[Bq e2];exact⟨j,g,h,rfl⟩
 rw[As e2];exact⟨k,m,n,rfl⟩
def n9 (o:α->α->Int) (d:α) (l:List α):Prop:=∀i j,i<l.length->j<l.length->i≠j->o (l.getD i d) (l.getD j d)≠0
theorem A0d (g:SO o) (l:List α):n9 o d l↔l.Pairwise λa b=>o a b≠0:=by
 have e:∀i (h:i<l.length),l.getD i d=l[i]:=λi h=>by rw[AS,AT h];rfl
 rw[UX];constructor
 .intro h i j hi c f;have:=h i j hi c (by omega)
  rwa [e i hi,e j c]at this
 intro h i j hi c f;rw[e i hi,e j c];rcases Nat.lt_or_gt_of_ne f with h1|h1
 .exact h i j hi c h1
 have k:=h j i c hi h1;rw[g.anti];omega
theorem n9.perm (c:SO o) {l r:List α} (h:n9 o d l) (hp:r.Perm l):n9 o d r:=by
 rw[A0d c]at h ⊢;refine(hp.symm.pairwise_iff ?_).1 h;intro a b e;rw[c.anti];omega
theorem n9.lt (c:SO o) {l:List α} (h:n9 o d l) {i j:Nat} (hi:i<l.length) (b:j<l.length) (a:i≠j) (hn:¬o (l.getD i d) (l.getD j d)<0):o (l.getD j d) (l.getD i d)<0:=by
 have h1:=h i j hi b a;rw[c.anti];omega
def SJ (o:α->α->Int) (d:α) (a b:Nat) (l:List α):Prop:=∀i j,a<=i->i<j->j<b->o (l.getD i d) (l.getD j d)<0
theorem e9 (a:Nat) (l:List α):SJ o d a (a+1) l:=λi j h1 b c=>by omega
theorem A4W (f:SO o) {a b:Nat} {l:List α} (h:SJ o d a b l) (k:a<b) (hl:o (l.getD (b-1) d) (l.getD b d)<0):SJ o d a (b+1) l:=by
 intro i j h1 c g;by_cases e:j=b
 .subst e;by_cases hi:i=j-1
  .rw[hi];exact hl
  exact f.trans (h i (j-1) h1 (by omega) (by omega)) hl
 exact h i j h1 c (by omega)
theorem Nk {a b:Nat} {l r:List α} (h:SJ o d a b l) (e:∀k,a<=k->k<b->r.getD k d=l.getD k d):SJ o d a b r:=λi j h1 f c=>by
 rw[e i h1 (by omega),e j (by omega) c];exact h i j h1 f c
def qT (o:α->α->Int) (d:α) (a i j:Nat) (m:List α):Prop:=(∀x y,a<=x->x<y->y<=i->x≠j->y≠j->o (m.getD x d) (m.getD y d)<0)/\∀y,j<y->y<=i->o (m.getD j d) (m.getD y d)<0
theorem qU {a i:Nat} {m:List α} (h:SJ o d a i m):qT o d a i i m:=⟨λx y h0 h1 b c e=>h x y h0 h1 (by omega),λy h1 b=>by omega⟩
theorem W9 (e:SO o) {a i j:Nat} {m:List α} (h:qT o d a i j m) (g:a<=j) (k:j<=i) (b:j=a\/o (m.getD (j-1) d) (m.getD j d)<0):SJ o d a (i+1) m:=by
 intro x y h0 h1 f;by_cases e1:x=j
 .subst e1;exact h.2 y h1 (by omega)
 by_cases e2:y=j
 .subst e2;rcases b with b|b
  .omega
  by_cases c:x=y-1
  .subst c;exact b
  exact e.trans (h.1 x (y-1) h0 (by omega) (by omega) e1 (by omega)) b
 exact h.1 x y h0 h1 (by omega) e1 e2
theorem aO {a i j:Nat} {m:List α} (h:qT o d a i j m) (h0:a<j) (k:j<=i) (hi:i<m.length) (g:o (m.getD j d) (m.getD (j-1) d)<0):qT o d a i (j-1) (CU d m j (j-1)):=by
 have c:=Ig (d:=d) (l:=m) (i:=j) (j:=j-1) (by omega) (by omega);refine⟨λx y hx h1 b e f=>?_,λy h1 b=>?_⟩
 .rw[c x,c y,As e,As f];by_cases e1:x=j
  .subst e1;rw[Bq rfl,As (by omega)];exact h.1 (x-1) y (by omega) (by omega) b (by omega) (by omega)
  rw[As e1];by_cases e2:y=j
  .rw[Bq e2];exact h.1 x (j-1) hx (by omega) (by omega) e1 (by omega)
  rw[As e2];exact h.1 x y hx h1 b e1 e2
 rw[c (j-1),c y,Bq rfl,As (by omega)];by_cases e2:y=j
 .rw[Bq e2];exact g
 rw[As e2];exact h.2 y (by omega) b
def Hp (o:α->α->Int) (d:α) (f hi lo:Nat) (m:List α):Prop:=∀k c,lo<=k->(c=2*k+1\/c=2*k+2)->c<hi->o (m.getD (f+c) d) (m.getD (f+k) d)<0
structure HpX (o:α->α->Int) (d:α) (f hi lo root:Nat) (m:List α):Prop where
 le:lo<=root
 hp:∀k c,lo<=k->k≠root->(c=2*k+1\/c=2*k+2)->c<hi->o (m.getD (f+c) d) (m.getD (f+k) d)<0
 up:∀p c,lo<=p->(root=2*p+1\/root=2*p+2)->(c=2*root+1\/c=2*root+2)->c<hi->o (m.getD (f+c) d) (m.getD (f+p) d)<0
theorem A24 {f hi lo:Nat} {m:List α} (h:Hp o d f hi (lo+1) m):HpX o d f hi lo lo m:=⟨NO _,λk c h1 a b e=>h k c (by omega) b e,λp c h1 a=>by omega⟩
theorem A4X {f hi lo root:Nat} {m:List α} (h:HpX o d f hi lo root m) (hl:hi<=2*root+1):Hp o d f hi lo m:=λk c h1 a b=>h.hp k c h1 (by omega) a b
theorem lC (i:SO o) {f hi lo root ch:Nat} {m:List α} (h:HpX o d f hi lo root m) (j:ch=2*root+1\/ch=2*root+2) (g:o (m.getD (f+ch) d) (m.getD (f+root) d)<0)
  (hs:∀c,(c=2*root+1\/c=2*root+2)->c<hi->c≠ch->o (m.getD (f+c) d) (m.getD (f+ch) d)<0):Hp o d f hi lo m:=λk c h1 a b=>by
 by_cases hk:k=root
 .subst hk;by_cases e:c=ch
  .rw[e];exact g
  exact i.trans (hs c a b e) g
 exact h.hp k c h1 hk a b
theorem lD {f hi lo root ch:Nat} {m:List α} (h:HpX o d f hi lo root m) (r:ch<hi) (hf:f+hi<=m.length) (n:ch=2*root+1\/ch=2*root+2) (t:o (m.getD (f+root) d) (m.getD (f+ch) d)<0)
  (hs:∀c,(c=2*root+1\/c=2*root+2)->c<hi->c≠ch->o (m.getD (f+c) d) (m.getD (f+ch) d)<0):HpX o d f hi lo ch (CU d m (f+root) (f+ch)):=by
 have e:=Ig (d:=d) (l:=m) (i:=f+root) (j:=f+ch) (by omega) (by omega);have u:=h.le;refine⟨by omega,λk c h1 g a b=>?_,λp c h1 g a b=>?_⟩
 .rw[e,e];by_cases hk:k=root
  .subst hk;rw[As (show ¬f+k=f+ch by omega),Bq rfl];by_cases q:c=ch
   .rw[Bq (by omega)];exact t
   rw[As (by omega),As (by omega)];exact hs c a b q
  rw[As (show ¬f+k=f+ch by omega),As (show ¬f+k=f+root by omega)];by_cases s:c=root
  .subst s;rw[As (by omega),Bq rfl];exact h.up k ch h1 a n r
  rw[As (by omega),As (by omega)];exact h.hp k c h1 hk a b
 have hp:p=root:=by omega
 subst hp;rw[e,e,As (by omega),As (by omega),As (by omega),Bq rfl];exact h.hp ch c (by omega) (by omega) a b
theorem lE (b:SO o) {f hi:Nat} {m:List α} (h:Hp o d f hi 0 m):∀(n k:Nat),k<=n->0<k->k<hi->o (m.getD (f+k) d) (m.getD f d)<0
 | 0,k,h1,c,_=>by omega
 | n+1,k,h1,c,e=>by
  have a:=h ((k-1) / 2) k (by omega) (by omega) e;by_cases g:(k-1) / 2=0
  .rw[g]at a;exact a
  exact b.trans a (lE b h n ((k-1) / 2) (by omega) (by omega) (by omega))
structure A25 (o:α->α->Int) (d:α) (f n i:Nat) (m:List α):Prop where
 heap:Hp o d f i 0 m
 srt:SJ o d (f+i) (f+n) m
 big:∀x y,x<i->i<=y->y<n->o (m.getD (f+x) d) (m.getD (f+y) d)<0
theorem qV {f n:Nat} {m:List α} (h:Hp o d f n 0 m):A25 o d f n n m:=⟨h,λi j h1 a b=>by omega,λx y h1 a b=>by omega⟩
theorem A26 (s:SO o) {f n i:Nat} {m:List α} (h:A25 o d f n (i+1) m) (hi:i<n) (hl:f+n<=m.length) :
  HpX o d f i 0 0 (CU d m f (f+i))/\SJ o d (f+i) (f+n) (CU d m f (f+i))/\∀x y,x<i->i<=y->y<n->o ((CU d m f (f+i)).getD (f+x) d) ((CU d m f (f+i)).getD (f+y) d)<0:=by
 have a:=Ig (d:=d) (l:=m) (i:=f) (j:=f+i) (by omega) (by omega);have g:=lE s h.heap i;refine⟨⟨NO _,λk c h1 e b t=>?_,λp c h1 e=>by omega⟩,λx y h1 e b=>?_,λx y h1 e b=>?_⟩
 .rw[a,a,As (by omega),As (by omega),As (by omega),As (by omega)];exact h.heap k c h1 b (by omega)
 .rw[a,a,As (show ¬y=f+i by omega),As (show ¬y=f by omega)];by_cases hx:x=f+i
  .rw[Bq hx];have:=h.big 0 (y-f) (by omega) (by omega) (by omega)
   rwa [show f+0=f by omega,show f+(y-f)=y by omega]at this
  rw[As hx,As (by omega)];exact h.srt x y (by omega) e b
 have key:∀z,z<i+1->i+1<=y->o (m.getD (f+z) d) (m.getD (f+y) d)<0:=λz r q=>h.big z y r q b;rw[a,a,As (show ¬f+x=f+i by omega)];by_cases q:y=i
 .rw[Bq (show f+y=f+i by omega)];by_cases hx:x=0
  .rw[Bq (show f+x=f by omega)];exact g i (by omega) (by omega) (by omega)
  rw[As (show ¬f+x=f by omega)];exact g x (by omega) (by omega) (by omega)
 rw[As (show ¬f+y=f+i by omega),As (show ¬f+y=f by omega)];by_cases hx:x=0
 .rw[Bq (show f+x=f by omega)];exact key i (by omega) (by omega)
 rw[As (show ¬f+x=f by omega)];exact key x (by omega) (by omega)
theorem A27 {f n i:Nat} {m r:List α} (hp:D9 d f (f+i) m r) (hh:Hp o d f i 0 r) (hs:SJ o d (f+i) (f+n) m) (c:∀x y,x<i->i<=y->y<n->o (m.getD (f+x) d) (m.getD (f+y) d)<0):A25 o d f n i r :=
 ⟨hh,Nk hs λk h1 a=>hp.out k (by omega),λx y h1 a b=>by
  rw[hp.out (f+y) (by omega)];obtain⟨j,g,h,e⟩:=hp.inn (f+x) (by omega) (by omega);rw[e];have:=c (j-f) y (by omega) a b
  rwa [show f+(j-f)=j by omega]at this⟩
theorem A4Y {f n:Nat} {m:List α} (h:A25 o d f n 0 m):SJ o d f (f+n) m:=h.srt
structure PtI (o:α->α->Int) (d:α) (a b i j:Nat) (m:List α):Prop where
 lo:∀x,a<x->x<i->o (m.getD x d) (m.getD a d)<0
 hi:∀x,j<x->x<b->o (m.getD a d) (m.getD x d)<0
theorem lF {a b i j:Nat} {m:List α} (h:PtI o d a b i j m) (n:a<i) (q:i<j) (r:j<b) (p:b<=m.length) (h1:o (m.getD a d) (m.getD i d)<0) (k:o (m.getD j d) (m.getD a d)<0):PtI o d a b (i+1) (j-1) (CU d m i j):=by
 have c:=Ig (d:=d) (l:=m) (i:=i) (j:=j) (by omega) (by omega);refine⟨λx f g=>?_,λx f g=>?_⟩
 .rw[c x,c a,As (show ¬x=j by omega),As (show ¬a=j by omega),As (show ¬a=i by omega)];by_cases e:x=i
  .rw[Bq e];exact k
  rw[As e];exact h.lo x f (by omega)
 rw[c x,c a,As (show ¬a=j by omega),As (show ¬a=i by omega)];by_cases e:x=j
 .rw[Bq e];exact h1
 rw[As e,As (by omega)];exact h.hi x (by omega) g
structure PtE (o:α->α->Int) (d:α) (a b p:Nat) (m:List α):Prop where
 l:a<=p
 r:p<b
 lo:∀x,a<=x->x<p->o (m.getD x d) (m.getD p d)<0
 hi:∀x,p<x->x<b->o (m.getD p d) (m.getD x d)<0
theorem A0e {a b j:Nat} {m:List α} (h:PtI o d a b (j+1) j m) (g:a<=j) (k:j<b) (p:b<=m.length):PtE o d a b j (CU d m j a):=by
 have c:=Ig (d:=d) (l:=m) (i:=j) (j:=a) (by omega) (by omega);refine⟨g,k,λx n f=>?_,λx n f=>?_⟩
 .rw[c x,c j,As (show ¬j=a by omega),Bq rfl];by_cases e:x=a
  .rw[Bq e];exact h.lo j (by omega) (by omega)
  rw[As e,As (by omega)];exact h.lo x (by omega) (by omega)
 rw[c x,c j,As (show ¬x=a by omega),As (show ¬x=j by omega)];by_cases e:j=a
 .rw[Bq e];rw[e];exact h.hi x (by omega) f
 rw[As e,Bq rfl];exact h.hi x (by omega) f
structure Cut (o:α->α->Int) (d:α) (a0 b0 a b:Nat) (m:List α):Prop where
 s1:SJ o d a0 a m
 s2:SJ o d b b0 m
 c1:∀x y,a0<=x->x<a->a<=y->y<b0->o (m.getD x d) (m.getD y d)<0
 c2:∀x y,a0<=x->x<b->b<=y->y<b0->o (m.getD x d) (m.getD y d)<0
 ab:a0<=a/\a<=b/\b<=b0
theorem A29 {a b:Nat} (g:a<=b) (m:List α):Cut o d a b a b m:=⟨λi j h1 c e=>by omega,λi j h1 c e=>by omega,λx y h1 c=>by omega,λx y h1 c e f=>by omega,by omega⟩
theorem Cut.pin {l n a b:Nat} {m r:List α} (h:Cut o d l n a b m) (hp:D9 d a b m r):Cut o d l n a b r:=by
 obtain⟨w,B,A⟩:=h.ab;have key:∀(P:α->Prop) (lo hi:Nat),lo<=a->b<=hi->(∀y,lo<=y->y<hi->P (m.getD y d))->∀y,lo<=y->y<hi->P (r.getD y d):=λP lo hi h1 p q y c f=>by
  obtain⟨j,s,t,e⟩:=(hp.mono h1 p).inn y c f;rw[e];exact q j s t
 refine⟨Nk h.s1 λk u v=>hp.out k (by omega),Nk h.s2 λk u v=>hp.out k (by omega),λx y g i c f=>?_,λx y g i c f=>?_,h.ab⟩
 .rw[hp.out x (by omega)];exact key (λz=>o (m.getD x d) z<0) a n (NO _) A (λy c f=>h.c1 x y g i c f) y c f
 rw[hp.out y (by omega)];exact key (λz=>o z (m.getD y d)<0) l b w (NO _) (λx g i=>h.c2 x y g i c f) x g i
theorem Cut.done {g k a b:Nat} {m:List α} (h:Cut o d g k a b m) (hs:SJ o d a b m):SJ o d g k m:=by
 obtain⟨n,p,q⟩:=h.ab;intro i j h1 c e;by_cases hi:i<a
 .by_cases f:j<a
  .exact h.s1 i j h1 c f
  exact h.c1 i j h1 hi (by omega) e
 by_cases f:j<b
 .exact hs i j (by omega) c f
 by_cases l:i<b
 .exact h.c2 i j h1 l (by omega) e
 exact h.s2 i j (by omega) c e
theorem Cut.left (t:SO o) {e f a b p:Nat} {m:List α} (h:Cut o d e f a b m) (hp:PtE o d a b p m) (hs:SJ o d a p m):Cut o d e f (p+1) b m:=by
 obtain⟨w,z,A⟩:=h.ab;have hl:=hp.l;have v:=hp.r;refine⟨λi j h1 g u=>?_,h.s2,λx y n B C q=>?_,h.c2,by omega⟩
 .by_cases hi:i<a
  .by_cases c:j<a
   .exact h.s1 i j h1 g c
   exact h.c1 i j h1 hi (by omega) (by omega)
  by_cases c:j=p
  .rw[c];exact hp.lo i (by omega) (by omega)
  exact hs i j (by omega) g (by omega)
 by_cases hx:x<a
 .exact h.c1 x y n hx (by omega) q
 by_cases k:y<b
 .by_cases s:x=p
  .rw[s];exact hp.hi y (by omega) k
  exact t.trans (hp.lo x (by omega) (by omega)) (hp.hi y (by omega) k)
 exact h.c2 x y n (by omega) (by omega) q
theorem Cut.right (w:SO o) {g k a b p:Nat} {m:List α} (h:Cut o d g k a b m) (hp:PtE o d a b p m) (hs:SJ o d (p+1) b m):Cut o d g k a p m:=by
 obtain⟨A,B,C⟩:=h.ab;have hl:=hp.l;have z:=hp.r;refine⟨h.s1,λi j h1 n q=>?_,λx y c e t f=>h.c1 x y c e t f,λx y c e t f=>?_,by omega⟩
 .by_cases s:j<b
  .by_cases hi:i=p
   .rw[hi];exact hp.hi j (by omega) s
   exact hs i j (by omega) n s
  by_cases u:i<b
  .exact h.c2 i j (by omega) u (by omega) q
  exact h.s2 i j (by omega) n q
 by_cases v:y<b
 .by_cases hx:x<a
  .exact h.c1 x y c hx (by omega) f
  by_cases hyp:y=p
  .rw[hyp];exact hp.lo x (by omega) e
  exact w.trans (hp.lo x (by omega) e) (hp.hi y (by omega) v)
 exact h.c2 x y c (by omega) (by omega) f
theorem PtE.pinL {a b p:Nat} {m r:List α} (h:PtE o d a b p m) (hp:D9 d a p m r):PtE o d a b p r:=by
 have hl:=h.l;have g:=h.r;refine⟨hl,g,λx c f=>?_,λx c f=>?_⟩
 .rw[hp.out p (by omega)];obtain⟨j,i,k,e⟩:=hp.inn x c f;rw[e];exact h.lo j i k
 rw[hp.out p (by omega),hp.out x (by omega)];exact h.hi x c f
theorem PtE.pinR {a b p:Nat} {m r:List α} (h:PtE o d a b p m) (hp:D9 d (p+1) b m r):PtE o d a b p r:=by
 have hl:=h.l;have g:=h.r;refine⟨hl,g,λx f c=>?_,λx f c=>?_⟩
 .rw[hp.out p (by omega),hp.out x (by omega)];exact h.lo x f c
 rw[hp.out p (by omega)];obtain⟨j,k,i,e⟩:=hp.inn x (by omega) c;rw[e];exact h.hi j (by omega) i
def Bf (o:α->α->Int) (d:α) (a b:Nat) (m:List α):Prop:=a=0\/∀y,a<=y->y<b->o (m.getD (a-1) d) (m.getD y d)<0
theorem Bf.pin {a b:Nat} {m r:List α} (h:Bf o d a b m) (hp:D9 d a b m r):Bf o d a b r:=by
 rcases h with h|h
 .exact .inl h
 by_cases h0:a=0
 .exact .inl h0
 right;intro y g i;rw[hp.out (a-1) (by omega)];obtain⟨j,c,f,e⟩:=hp.inn y g i;rw[e];exact h j c f
theorem Bf.sub {a b b':Nat} {m:List α} (h:Bf o d a b m) (e:b'<=b):Bf o d a b' m:=h.imp id λh y c f=>h y c (by omega)
theorem PtE.bf {a b p:Nat} {m:List α} (h:PtE o d a b p m):Bf o d (p+1) b m:=.inr λy e c=>by
 rw[show p+1-1=p by omega];exact h.hi y (by omega) c
end
section
attribute [local go_sem] Cy
def CD (a b:Int×Int):Int:=UH a.1 b.1
theorem CM:SO CD:=⟨λa b=>by unfold CD UH;(repeat' split)<;>omega,λ{a b c} h1 d=>by
 unfold CD UH at *
 (repeat' split at h1)<;>(repeat' split at d)<;>(repeat' split)<;>omega⟩
theorem A8W (l:List (Int×Int)) (hl:l.length<=100000) (w:n9 CD (0,0) l) (a b:Nat) (H:a<=100000) (I:b<=l.length):BA Tryz.prog 232 [.sr 1000000 AW 0 l.length,.p T3 (a:Int),.p T3 (b:Int),.fn 192] [(1000000,.arr 106 AW l)] [1000000] (λres F=>res=.raw (.tuple #[])/\∃r,F=[(1000000,.arr 106 AW r)]/\D9 (0,0) a b l r/\SJ CD (0,0) a b r):=by
 refine Ki [0,1,2,3,8,9,14,34] [] [] Tryz.func232 Tryz.ntmps232 (AF E1 AH) ?_;intro w0 K O0 ρ0 d N O;simp only[Aj];repeat'(first|exact trivial|apply eS rfl|apply AB|refine rX d ?_ ?_|refine rC ?_ ?_<;>intro e<;>try(cases e;done))
 .omega
 refine AK (ι:={s:Nat×List (Int×Int)//a+1<=s.1/\(s.1=a+1\/s.1<=b)/\D9 (0,0) a b l s.2/\SJ CD (0,0) a s.1 s.2}) (λs=>⟨[(0,.sr 1000000 AW 0 l.length),(1,.p T3 (a:Int)),(2,.p T3 (b:Int)),(3,.fn 192),(8,.p (.int .i64) (s.1.1:Int))],[(1000000,.arr 106 AW s.1.2)]⟩) (λs=>b-s.1.1) ⟨(a+1,l),NO _,.inl rfl,D9.refl a b l,e9 a l⟩ (AD [(1000000,.nm 1000000)] rfl rfl ?_ ?_) (λs=>?_)
 .first|exact eN|refine eM ?_
 .first|exact eN|refine eM ?_
 obtain⟨⟨i,m⟩,B,C,hp,hs⟩:=s;simp only at B C hp hs ⊢;have M:=hp.len;repeat'(first|exact trivial|apply eS rfl|apply AB|refine rX d ?_ ?_|refine rC ?_ ?_<;>intro e<;>try(cases e;done))
 .have D:i<b:=by exact eV
  refine AK (ι:={t:Nat×List (Int×Int)//a<=t.1/\t.1<=i/\D9 (0,0) a b l t.2/\qT CD (0,0) a i t.1 t.2}) (λt=>⟨[(0,.sr 1000000 AW 0 l.length),(1,.p T3 (a:Int)),(2,.p T3 (b:Int)),(3,.fn 192),(8,.p (.int .i64) (i:Int)),(9,.p (.int .i64) (t.1.1:Int))],[(1000000,.arr 106 AW t.1.2)]⟩) (λt=>t.1.1) ⟨(i,m),by omega,NO i,hp,qU hs⟩ (AD [(1000000,.nm 1000000)] rfl rfl ?_ ?_) (λt=>?_)
  .first|exact eN|refine eM ?_
  .first|exact eN|refine eM ?_
  obtain⟨⟨j,c⟩,ha,q,g,o⟩:=t;simp only at ha q g o ⊢;have J:=g.len;have z:=w.perm CM g.perm;repeat'(first|exact trivial|apply eS rfl|apply AB|refine rX d ?_ ?_)
  .dsimp only[Ty.den]at *;exact⟨λ_=>by omega,λ_=>⟨by omega,by omega⟩,λ_=>⟨by omega,by omega⟩⟩
  have n:a<j->((j:Int)-1).toNat=j-1:=λ_=>by omega
  refine De (by simp only[go_sem,Nat.reduceEqDiff,reduceCtorEq,Nat.reduceAdd,Nat.reduceSub,Nat.reduceMul,Nat.reduceLeDiff,Nat.reduceLT,Int.reduceLE,Int.reduceToNat,Int.reduceNeg,↓reduceIte];rfl) ?_ ?_
  .intro f;simp only[An,DO]at f;have k:a<j:=by omega
   have u:CD (c.getD j (0,0)) (c.getD ((j:Int)-1).toNat (0,0))<0:=f.2;rw[n k]at u;have E:CU (0,0) c j (j-1)=(c.set j (c.getD (j-1) (0,0))).set (j-1) (c.getD j (0,0)):=rfl;repeat'(first|exact trivial|apply eS rfl|apply AB|refine rP d ?_ ?_|fail)
   (refine CJ drawsAny d 16 [([0,1,5,6,7,8,9,10,11,12,13,14],15)] [2,3,4] (by kernel_rfl) (LF ?_ ?_);(next=>exact CY);refine Nx d [] ?_ ?_;(next=>exact CY);refine R1 d ?_ ?_ ?_;(next=>exact CY);(next=>exact CY))
   rw[n k];repeat'(first|exact trivial|apply eS rfl|apply AB|refine rX d ?_ ?_|refine rC ?_ ?_<;>intro e<;>try(cases e;done))
   .dsimp only[Ty.den]at *;omega
   refine⟨⟨(j-1,CU (0,0) c j (j-1)),by simp only;omega,by simp only;omega,g.trans (D9.swap c (by omega) (by omega) (by omega) (by omega) (by omega)),aO o k q (by omega) u⟩,by simp only;omega,AD [(1000000,.nm 1000000)] rfl rfl ?_ ?_⟩
   .simp only;rw[E];first|exact eN|refine eM ?_
   simp only;rw[show ((j-1:Nat):Int)=(j:Int)-1 by omega];first|exact eN|refine eM ?_
  intro f;have A:j=a\/CD (c.getD (j-1) (0,0)) (c.getD j (0,0))<0:=by
   by_cases k:j=a
   .exact .inl k
   right;simp only[Yx,To]at f;rw[n (by omega)]at f;rcases f with h|h
   .omega
   exact z.lt CM (by omega) (by omega) (by omega) h
  repeat'(first|exact trivial|apply eS rfl|apply AB|refine rX d ?_ ?_|refine rC ?_ ?_<;>intro e<;>try(cases e;done))
  .exact eV
  refine⟨⟨(i+1,c),by simp only;omega,.inr D,g,W9 CM o ha q A⟩,by simp only;omega,AD [(1000000,.nm 1000000)] rfl rfl ?_ ?_⟩
  .first|exact eN|refine eM ?_
  first|exact eN|refine eM ?_
 have L:b<=i:=by exact eV
 exact fM d [] (.raw (.tuple #[])) rfl ⟨rfl,m,rfl,hp,λx y h1 v G=>hs x y h1 v (by omega)⟩
end
section
attribute [local go_sem] Cy
theorem A8X (l:List (Int×Int)) (hl:l.length<=100000) (a b:Nat) (h:a<b) (k:b<=l.length):BA Tryz.prog 236 [.sr 1000000 AW 0 l.length,.p T3 (a:Int),.p T3 (b:Int),.fn 192] [(1000000,.arr 106 AW l)] [1000000] (λres g=>res=.raw (.tuple #[])/\∃r,g=[(1000000,.arr 106 AW r)]/\D9 (0,0) a b l r):=by
 refine Ki [0,1,2,8,9,15] [] [] Tryz.func236 Tryz.ntmps236 AH ?_;intro w0 K O0 ρ0 c q t;simp only[Aj];repeat'(first|exact trivial|apply eS rfl|apply AB|refine rX c ?_ ?_|refine rC ?_ ?_<;>intro d<;>try(cases d;done))
 .omega
 rw[show (b:Int)-1=((b-1:Nat):Int) by omega];refine AK (ι:={s:Nat×Nat×List (Int×Int)//a<=s.1/\s.2.1<b/\D9 (0,0) a b l s.2.2}) (λs=>⟨[(0,.sr 1000000 AW 0 l.length),(8,.p (.int .i64) (s.1.1:Int)),(9,.p (.int .i64) (s.1.2.1:Int))],[(1000000,.arr 106 AW s.1.2.2)]⟩) (λs=>s.1.2.1-s.1.1) ⟨(a,b-1,l),NO _,by simp only;omega,D9.refl a b l⟩ (AD [(1000000,.nm 1000000)] rfl rfl ?_ ?_) (λs=>?_)
 .first|exact eN|refine eM ?_
 .first|exact eN|refine eM ?_
 obtain⟨⟨i,j,m⟩,hi,e,hp⟩:=s;simp only at hi e hp ⊢;have o:=hp.len;repeat'(first|exact trivial|apply eS rfl|apply AB|refine rX c ?_ ?_)
 refine rC ?_ ?_<;>intro d
 .repeat'(first|exact trivial|apply eS rfl|apply AB|refine rP c ?_ ?_|fail)
  have n:i<j:=by omega
  have f:CU (0,0) m i j=(m.set i (m.getD j (0,0))).set j (m.getD i (0,0)):=rfl
  (refine CJ drawsAny c 14 [([0,1,4,5,6,7,8,9,10,11,12],13)] [2,3] (by kernel_rfl) (LF ?_ ?_);(next=>exact CY);refine Nx c [] ?_ ?_;(next=>exact CY);refine R1 c ?_ ?_ ?_;(next=>exact CY);(next=>exact CY))
  repeat'(first|exact trivial|apply eS rfl|apply AB|refine rX c ?_ ?_|refine rC ?_ ?_<;>intro d<;>try(cases d;done))
  .omega
  .omega
  refine⟨⟨(i+1,j-1,CU (0,0) m i j),by simp only;omega,by simp only;omega,hp.trans (D9.swap m (by omega) (by omega) (by omega) (by omega) (by omega))⟩,by simp only;omega,AD [(1000000,.nm 1000000)] rfl rfl ?_ ?_⟩
  .simp only;rw[f];first|exact eN|refine eM ?_
  simp only;rw[show ((j-1:Nat):Int)=(j:Int)-1 by omega];first|exact eN|refine eM ?_
 repeat'(first|exact trivial|apply eS rfl|apply AB|refine rX c ?_ ?_|refine rC ?_ ?_<;>intro d<;>try(cases d;done))
 exact fM c [] (.raw (.tuple #[])) rfl ⟨rfl,m,rfl,hp⟩
theorem lG (l:List (Int×Int)) (hl:l.length<=100000) (v:n9 CD (0,0) l) (lo hi f:Nat) (B:lo<=100000) (hf:f+hi<=l.length) (w:HpX CD (0,0) f hi lo lo l):BA Tryz.prog 244 [.sr 1000000 AW 0 l.length,.p T3 (lo:Int),.p T3 (hi:Int),.p T3 (f:Int),.fn 192] [(1000000,.arr 106 AW l)] [1000000] (λres A=>res=.raw (.tuple #[])/\∃r,A=[(1000000,.arr 106 AW r)]/\D9 (0,0) f (f+hi) l r/\Hp CD (0,0) f hi lo r):=by
 refine Ki [0,1,2,3,4,10,11,18,40,58] [] [] Tryz.func244 Tryz.ntmps244 (AF E1 AH) ?_;intro w0 K O0 ρ0 a D E;simp only[Aj];repeat'(first|exact trivial|apply eS rfl|apply AB|refine rX a ?_ ?_|refine rC ?_ ?_<;>intro d<;>try(cases d;done))
 refine AK (ι:={s:Nat×List (Int×Int)//s.1<=lo+hi/\D9 (0,0) f (f+hi) l s.2/\HpX CD (0,0) f hi lo s.1 s.2}) (λs=>⟨[(0,.sr 1000000 AW 0 l.length),(2,.p T3 (hi:Int)),(3,.p T3 (f:Int)),(4,.fn 192),(10,.p (.int .i64) (s.1.1:Int))],[(1000000,.arr 106 AW s.1.2)]⟩) (λs=>lo+hi-s.1.1) ⟨(lo,l),by omega,D9.refl _ _ l,w⟩ (AD [(1000000,.nm 1000000)] rfl rfl ?_ ?_) (λs=>?_)
 .first|exact eN|refine eM ?_
 .first|exact eN|refine eM ?_
 obtain⟨⟨root,m⟩,z,hp,hx⟩:=s;simp only at z hp hx ⊢;have C:=hp.len;have k:=v.perm CM hp.perm;repeat'(first|exact trivial|apply eS rfl|apply AB|refine rX a ?_ ?_)
 .omega
 refine rC ?_ ?_<;>intro d
 .have hl:hi<=2*root+1:=by omega
  repeat'(first|exact trivial|apply eS rfl|apply AB|refine rX a ?_ ?_|refine rC ?_ ?_<;>intro d<;>try(cases d;done))
  exact fM a [] (.raw (.tuple #[])) rfl ⟨rfl,m,rfl,hp,A4X hx hl⟩
 have hl:2*root+1<hi:=by omega
 have e1:((f:Int)+(2*(root:Int)+1)).toNat=f+(2*root+1):=by omega
 have e2:((f:Int)+(2*(root:Int)+1+1)).toNat=f+(2*root+2):=by omega
 have q:((f:Int)+(2*(root:Int)+1)+1).toNat=f+(2*root+2):=by omega
 have g:((f:Int)+(root:Int)).toNat=f+root:=by omega
 repeat'(first|exact trivial|apply eS rfl|apply AB|refine rX a ?_ ?_)
 .dsimp only[Ty.den];exact⟨by omega,λ_=>by omega,λ_=>by omega,λ_=>by omega,λ_=>by omega,λ_=>by omega⟩
 refine De (by simp only[go_sem,Nat.reduceEqDiff,reduceCtorEq,Nat.reduceAdd,Nat.reduceSub,Nat.reduceMul,Nat.reduceLeDiff,Nat.reduceLT,Int.reduceLE,Int.reduceToNat,Int.reduceNeg,↓reduceIte];rfl) ?_ ?_
 .intro e;simp only[An,DO]at e;obtain⟨hh,e⟩:=e;have y:CD (m.getD (f+(2*root+1)) (0,0)) (m.getD (f+(2*root+2)) (0,0))<0:=by rw[<-e1,<-q];exact e
  have x:2*root+2<hi:=by omega
  have hs:∀c,(c=2*root+1\/c=2*root+2)->c<hi->c≠2*root+2->CD (m.getD (f+c) (0,0)) (m.getD (f+(2*root+2)) (0,0))<0:=λc h1 t u=>by
   rw[show c=2*root+1 by omega];exact y
  repeat'(first|exact trivial|apply eS rfl|apply AB|refine rX a ?_ ?_)
  .omega
  .exact CY
  refine De (by simp only[go_sem,Nat.reduceEqDiff,reduceCtorEq,Nat.reduceAdd,Nat.reduceSub,Nat.reduceMul,Nat.reduceLeDiff,Nat.reduceLT,Int.reduceLE,Int.reduceToNat,Int.reduceNeg,↓reduceIte];rfl) ?_ ?_
  .intro b;simp only[UL,To]at b;rw[g,e2]at b;have n:=k.lt CM (i:=f+root) (j:=f+(2*root+2)) (by omega) (by omega) (by omega) b;repeat'(first|exact trivial|apply eS rfl|apply AB|refine rX a ?_ ?_|refine rC ?_ ?_<;>intro d<;>try(cases d;done))
   exact fM a [] (.raw (.tuple #[])) rfl ⟨rfl,m,rfl,hp,lC CM hx (.inr rfl) n hs⟩
  intro b;simp only[oR,DO]at b;rw[g,e2]at b;have o:CU (0,0) m (f+root) (f+(2*root+2))=(m.set (f+root) (m.getD (f+(2*root+2)) (0,0))).set (f+(2*root+2)) (m.getD (f+root) (0,0)):=rfl;repeat'(first|exact trivial|apply eS rfl|apply AB|refine rP a ?_ ?_|fail)
  (refine CJ drawsAny a 22 [([0,1,2,3,8,9,10,11,12,13,14,15,16,17,18,19,20],21)] [4,5,6,7] (by kernel_rfl) (LF ?_ ?_);(next=>exact CY);refine Nx a [] ?_ ?_;(next=>exact CY);refine R1 a ?_ ?_ ?_;(next=>exact CY);(next=>exact CY))
  rw[g,e2];repeat'(first|exact trivial|apply eS rfl|apply AB|refine rX a ?_ ?_|refine rC ?_ ?_<;>intro d<;>try(cases d;done))
  refine⟨⟨(2*root+2,CU (0,0) m (f+root) (f+(2*root+2))),by simp only;omega,hp.trans (D9.swap m (by omega) (by omega) (by omega) (by omega) (by omega)),lD hx x (by omega) (.inr rfl) b hs⟩,by simp only;omega,AD [(1000000,.nm 1000000)] rfl rfl ?_ ?_⟩
  .simp only;rw[o];first|exact eN|refine eM ?_
  simp only;rw[show ((2*root+2:Nat):Int)=2*(root:Int)+1+1 by omega];first|exact eN|refine eM ?_
 intro e;have hs:∀c,(c=2*root+1\/c=2*root+2)->c<hi->c≠2*root+1->CD (m.getD (f+c) (0,0)) (m.getD (f+(2*root+1)) (0,0))<0:=λc h1 t u=>by
  simp only[Yx,To]at e;have a:c=2*root+2:=by omega
  subst a;rcases e with h|h
  .omega
  rw[e1,q]at h;exact k.lt CM (by omega) (by omega) (by omega) h
 repeat'(first|exact trivial|apply eS rfl|apply AB|refine rX a ?_ ?_)
 .exact CY
 refine De (by simp only[go_sem,Nat.reduceEqDiff,reduceCtorEq,Nat.reduceAdd,Nat.reduceSub,Nat.reduceMul,Nat.reduceLeDiff,Nat.reduceLT,Int.reduceLE,Int.reduceToNat,Int.reduceNeg,↓reduceIte];rfl) ?_ ?_
 .intro b;simp only[UL,To]at b;rw[g,e1]at b;have n:=k.lt CM (i:=f+root) (j:=f+(2*root+1)) (by omega) (by omega) (by omega) b;repeat'(first|exact trivial|apply eS rfl|apply AB|refine rX a ?_ ?_|refine rC ?_ ?_<;>intro d<;>try(cases d;done))
  exact fM a [] (.raw (.tuple #[])) rfl ⟨rfl,m,rfl,hp,lC CM hx (.inl rfl) n hs⟩
 intro b;simp only[oR,DO]at b;rw[g,e1]at b;have o:CU (0,0) m (f+root) (f+(2*root+1))=(m.set (f+root) (m.getD (f+(2*root+1)) (0,0))).set (f+(2*root+1)) (m.getD (f+root) (0,0)):=rfl;repeat'(first|exact trivial|apply eS rfl|apply AB|refine rP a ?_ ?_|fail)
 (refine CJ drawsAny a 22 [([0,1,2,3,8,9,10,11,12,13,14,15,16,17,18,19,20],21)] [4,5,6,7] (by kernel_rfl) (LF ?_ ?_);(next=>exact CY);refine Nx a [] ?_ ?_;(next=>exact CY);refine R1 a ?_ ?_ ?_;(next=>exact CY);(next=>exact CY))
 rw[g,e1];repeat'(first|exact trivial|apply eS rfl|apply AB|refine rX a ?_ ?_|refine rC ?_ ?_<;>intro d<;>try(cases d;done))
 refine⟨⟨(2*root+1,CU (0,0) m (f+root) (f+(2*root+1))),by simp only;omega,hp.trans (D9.swap m (by omega) (by omega) (by omega) (by omega) (by omega)),lD hx hl (by omega) (.inl rfl) b hs⟩,by simp only;omega,AD [(1000000,.nm 1000000)] rfl rfl ?_ ?_⟩
 .simp only;rw[o];first|exact eN|refine eM ?_
 simp only;rw[show ((2*root+1:Nat):Int)=2*(root:Int)+1 by omega];first|exact eN|refine eM ?_
end
end Go.Proofs.YtapkhdkbkodbjaaGreat.Fw
